/-
  The contract of the reference's Echoes, second part: the echoes.
-/
import Derived.Test.YtlfnapfnpkhggaaGreatRef7Echo
set_option linter.unusedSimpArgs false
set_option linter.unusedVariables false
namespace Go.Proofs.YtlfnapfnpkhggaaGreat
open Go.RowKit Dg
attribute [local go_sem ↓] Go.wp_at_zero Go.wp_at_succ

theorem layAt_some {l : List Lay} {k : Nat} (h : k < l.length) : l[k]? = some (layAt l k) := by unfold layAt; rw [List.getElem?_eq_getElem h]; rfl

set_option maxRecDepth 100000 in
set_option maxHeartbeats 16000000 in
theorem r7_Echoes_ok (v : Value) (l : List Lay) (B : Nat) (w : World) (hl : Rows 9 156 (C3 RC) w v l) (h1 : 2 ≤ l.length) (h2 : l.length ≤ 12) (hp : l.all layPos = true) (hB : B ≤ 1000) (hz : ∀ x ∈ l, LaySz B x) :
    Calls Tryz.prog 15 #[v] w (Ret2 (fun w v => Rows 6 47 (C2 RC) w v (echoQ l (l.length - 1))) (fun _ v => v = .int .i64 0) w) := by
  obtain ⟨ao, cap, rfl, hc1, hc2, hc3⟩ := hl.slice
  have hs := Below.refl w.heap.size w
  obtain ⟨i0, hi, hz0, hz1, hz2⟩ := info_parts echoR_info
  have HL := Lib.hid hl
  have HPT := Lib.hid hp
  have HFT := Lib.hid (fun k (hk : k + 1 < l.length) => echo_fits hz (List.all_eq_true.1 hp) hB h2 hk)
  clear hl hp hz
  go_enter Tryz.func15, Tryz.ntmps15
  go_wp2
  go_loopw [4] (fun iv wr => ∃ k : Nat, k ≤ l.length ∧ iv = .int .i64 k ∧ (l.take k).all layPos = true ∧ Below w.heap.size w wr) (fun iv _ => l.length - (intOf iv).toNat)
  case atStart => exact ⟨0, Nat.zero_le _, rfl, rfl, hs⟩
  case round =>
    obtain ⟨k, hk, rfl, hp, hs⟩ := hrel
    have HP := Lib.hid hp
    clear hp
    by_cases hlt : k < l.length
    · obtain ⟨x, hx⟩ : ∃ x, l[k]? = some x := ⟨_, List.getElem?_eq_getElem hlt⟩
      obtain ⟨bx, ox, dx, csx, hvx, hlenx, hatx, hcx⟩ := (HL.out.mono (C3.kept RC.kept) hs).get hx
      obtain ⟨rfl, rfl⟩ := sliceE hvx
      obtain ⟨gx1, ax1, nx1, cx1, Ax1, Nx1, Dx1, gx2, ax2, nx2, cx2, Ax2, Nx2, Dx2, gx3, ax3, nx3, cx3, Ax3, Nx3, Dx3, rfl, hx1, hx2, hx3⟩ := hcx.open_
      have Ex0 := hatx 0 _ rfl
      have Ex1 := hatx 1 _ rfl
      have Ex2 := hatx 2 _ rfl
      have Ex3 := hatx 3 _ rfl
      have Ex4 := hatx 4 _ rfl
      have Ex5 := hatx 5 _ rfl
      have Ex6 := hatx 6 _ rfl
      have Ex7 := hatx 7 _ rfl
      have Ex8 := hatx 8 _ rfl
      simp only [Nat.add_zero] at Ex0
      clear hatx hcx hlenx
      have HT := Lib.hid (layPos_take l k x hx HP.out)
      have hsg := sgQ_le x.1
      generalize hS1 : sgQ x.1 = s1 at *
      have HS1 := Lib.hid hS1
      have HG1 := Lib.hid hsg
      clear hS1 hsg
      have hsg := sgQ_le x.2.1
      generalize hS2 : sgQ x.2.1 = s2 at *
      have HS2 := Lib.hid hS2
      have HG2 := Lib.hid hsg
      clear hS2 hsg
      have hsg := sgQ_le x.2.2
      generalize hS3 : sgQ x.2.2 = s3 at *
      have HS3 := Lib.hid hS3
      have HG3 := Lib.hid hsg
      clear hS3 hsg
      have HX := Lib.hid hx
      clear hx
      go_wp2_with fail
      refine (rSign hx1).mono ?_
      rintro e w1 ⟨rfl, hb⟩
      replace hs := bStep hs hb
      replace hx1 := hx1.mono hb
      replace hx2 := hx2.mono hb
      replace hx3 := hx3.mono hb
      replace Ex0 := cellK Ex0 hb
      replace Ex1 := cellK Ex1 hb
      replace Ex2 := cellK Ex2 hb
      replace Ex3 := cellK Ex3 hb
      replace Ex4 := cellK Ex4 hb
      replace Ex5 := cellK Ex5 hb
      replace Ex6 := cellK Ex6 hb
      replace Ex7 := cellK Ex7 hb
      replace Ex8 := cellK Ex8 hb
      clear hb
      rw [HS1.out]
      by_cases hq1 : 0 < x.1
      · have hn1 : ¬ s1 ≤ 0 := fun h => HG1.out.1 h hq1
        go_wp2_with fail
        refine (rSign hx2).mono ?_
        rintro e w2 ⟨rfl, hb⟩
        replace hs := bStep hs hb
        replace hx1 := hx1.mono hb
        replace hx2 := hx2.mono hb
        replace hx3 := hx3.mono hb
        replace Ex0 := cellK Ex0 hb
        replace Ex1 := cellK Ex1 hb
        replace Ex2 := cellK Ex2 hb
        replace Ex3 := cellK Ex3 hb
        replace Ex4 := cellK Ex4 hb
        replace Ex5 := cellK Ex5 hb
        replace Ex6 := cellK Ex6 hb
        replace Ex7 := cellK Ex7 hb
        replace Ex8 := cellK Ex8 hb
        clear hb
        rw [HS2.out]
        by_cases hq2 : 0 < x.2.1
        · have hn2 : ¬ s2 ≤ 0 := fun h => HG2.out.1 h hq2
          go_wp2_with fail
          refine (rSign hx3).mono ?_
          rintro e w3 ⟨rfl, hb⟩
          replace hs := bStep hs hb
          replace hx1 := hx1.mono hb
          replace hx2 := hx2.mono hb
          replace hx3 := hx3.mono hb
          replace Ex0 := cellK Ex0 hb
          replace Ex1 := cellK Ex1 hb
          replace Ex2 := cellK Ex2 hb
          replace Ex3 := cellK Ex3 hb
          replace Ex4 := cellK Ex4 hb
          replace Ex5 := cellK Ex5 hb
          replace Ex6 := cellK Ex6 hb
          replace Ex7 := cellK Ex7 hb
          replace Ex8 := cellK Ex8 hb
          clear hb
          rw [HS3.out]
          by_cases hq3 : 0 < x.2.2
          · have hn3 : ¬ s3 ≤ 0 := fun h => HG3.out.1 h hq3
            have HF := Lib.hid (show (l.take (k + 1)).all layPos = true by rw [HT.out]; unfold layPos; rw [decide_eq_true hq1, decide_eq_true hq2, decide_eq_true hq3]; rfl)
            go_wp2
            go_roundw
            case rel => exact ⟨k + 1, by omega, by go_num, HF.out, hs⟩
            all_goals first | (simp [intOf]; done) | (simp [intOf]; omega)
          · have hn : s3 ≤ 0 := HG3.out.2 hq3
            have HF := HT.out
            have hall := List.all_eq_true.1 HPT.out x (List.mem_of_getElem? HX.out)
            unfold layPos at hall
            simp only [Bool.and_eq_true, decide_eq_true_eq] at hall
            first | exact absurd hall.1 hq1 | exact absurd hall.2.1 hq2 | exact absurd hall.2.2 hq3
        · have hn : s2 ≤ 0 := HG2.out.2 hq2
          have HF := HT.out
          have hall := List.all_eq_true.1 HPT.out x (List.mem_of_getElem? HX.out)
          unfold layPos at hall
          simp only [Bool.and_eq_true, decide_eq_true_eq] at hall
          first | exact absurd hall.1 hq1 | exact absurd hall.2.1 hq2 | exact absurd hall.2.2 hq3
      · have hn : s1 ≤ 0 := HG1.out.2 hq1
        have HF := HT.out
        have hall := List.all_eq_true.1 HPT.out x (List.mem_of_getElem? HX.out)
        unfold layPos at hall
        simp only [Bool.and_eq_true, decide_eq_true_eq] at hall
        first | exact absurd hall.1 hq1 | exact absurd hall.2.1 hq2 | exact absurd hall.2.2 hq3
    · obtain rfl : k = l.length := by omega
      clear HP
      go_wp2_with fail
      refine (r7_zero _).mono ?_
      rintro e w1 ⟨_, rfl, ht, hb⟩
      obtain ⟨sht, aht, nht, cht, Aht, Nht, Cht, rfl⟩ := ht.shape
      replace hs := bStep hs hb
      clear hb
      go_wp2_with fail
      refine (r7_one _).mono ?_
      rintro e w2 ⟨_, rfl, hz, hb⟩
      obtain ⟨shz, ahz, nhz, chz, Ahz, Nhz, Chz, rfl⟩ := hz.shape
      replace hs := bStep hs hb
      replace ht := ht.mono hb
      clear hb
      go_wp2
      have hge : w.heap.size ≤ w2.heap.size := hs.size
      refine Code.abs ?_
      intro w3 hW
      have hsz := hs.size
      have hbw : Below w.heap.size w2 w3 := by rw [hW]; exact (Below.alloc (Below.alloc (Below.refl w.heap.size w2) (by first | exact hs.size | (have := hs.size; simp; done) | (have := hs.size; simp; omega)) _) (by first | exact hs.size | (have := hs.size; simp; done) | (have := hs.size; simp; omega)) _)
      have hs1 : Below w.heap.size w w3 := hs.trans hbw
      have hk : KeepD w2 w3 := by rw [hW]; exact (((KeepD.refl _).alloc _).alloc _)
      have Bl1t : Bx w3 (w2.heap.size) 45 #[.bool sht, .slice aht nht cht, .slice Aht Nht Cht] := by rw [hW]; exact ((Bx.new' _ _ _ _ (by first | rfl | (simp; done))).alloc _)
      have Bl1s : Bx w3 (w2.heap.size + 1) 45 #[.bool shz, .slice ahz nhz chz, .slice Ahz Nhz Chz] := by rw [hW]; exact (Bx.new' _ _ _ _ (by first | rfl | (simp; done)))
      replace hs := hs1
      clear hs1
      have Blt := Bl1t
      clear Bl1t
      have Bls := Bl1s
      clear Bl1s
      replace ht := ht.keep hk
      replace hz := hz.keep hk
      clear hW hk hsz hbw
      have hz_w3 : w2.heap.size + 1 < w3.heap.size := Bls.lt
      go_loopw [5, 8] (fun ov iv wq => ∃ k : Nat, k + 1 ≤ l.length ∧ iv = .int .i64 k ∧ Below w.heap.size w wq ∧ BoxR wq (w2.heap.size) (tmQ l k) ∧ BoxR wq (w2.heap.size + 1) (lfQ l k) ∧ OwnR w.heap.size 47 6 (C2 RC) wq ov (echoQ l k)) (fun _ iv _ => l.length - (intOf iv).toNat)
      case atStart => exact ⟨0, by omega, rfl, hs, ⟨_, _, _, _, _, _, _, Blt, ht⟩, ⟨_, _, _, _, _, _, _, Bls, hz⟩, OwnR.nil _ _ _ _ _⟩
      case round =>
        clear hs Blt Bls ht hz
        obtain ⟨k, hk, rfl, hs, ⟨sht, aht, nht, cht, Aht, Nht, Cht, Blt, ht⟩, ⟨shz, ahz, nhz, chz, Ahz, Nhz, Chz, Bls, hz⟩, Oout⟩ := hrel
        by_cases hlt : k + 1 < l.length
        · have hx := layAt_some (show k < l.length by omega)
          have hy := layAt_some hlt
          obtain ⟨bx, ox, dx, csx, hvx, hlenx, hatx, hcx⟩ := (HL.out.mono (C3.kept RC.kept) hs).get hx
          obtain ⟨rfl, rfl⟩ := sliceE hvx
          obtain ⟨gx1, ax1, nx1, cx1, Ax1, Nx1, Dx1, gx2, ax2, nx2, cx2, Ax2, Nx2, Dx2, gx3, ax3, nx3, cx3, Ax3, Nx3, Dx3, rfl, hx1, hx2, hx3⟩ := hcx.open_
          have Ex0 := hatx 0 _ rfl
          have Ex1 := hatx 1 _ rfl
          have Ex2 := hatx 2 _ rfl
          have Ex3 := hatx 3 _ rfl
          have Ex4 := hatx 4 _ rfl
          have Ex5 := hatx 5 _ rfl
          have Ex6 := hatx 6 _ rfl
          have Ex7 := hatx 7 _ rfl
          have Ex8 := hatx 8 _ rfl
          simp only [Nat.add_zero] at Ex0
          clear hatx hcx hlenx
          obtain ⟨bby, oy, dy, csy, hvy, hleny, haty, hcy⟩ := (HL.out.mono (C3.kept RC.kept) hs).get hy
          obtain ⟨ey, rfl⟩ := sliceE hvy
          injection ey with ey
          injection ey with ey1 ey2
          subst ey1 ey2
          obtain ⟨gy1, ay1, ny1, cy1, Ay1, Ny1, Dy1, gy2, ay2, ny2, cy2, Ay2, Ny2, Dy2, gy3, ay3, ny3, cy3, Ay3, Ny3, Dy3, rfl, hy1, hy2, hy3⟩ := hcy.open_
          have Ey0 := haty 0 _ rfl
          have Ey1 := haty 1 _ rfl
          have Ey2 := haty 2 _ rfl
          simp only [Nat.add_zero] at Ey0
          clear haty hcy hleny
          have hLx := HL.out.lt (by omega)
          obtain ⟨⟨f1, f2, f3, f4, f5, f6⟩, ⟨k1, k2, k3, k4, k5⟩, e1, e2, e3, e4⟩ := HFT.out k hlt
          have bk1 : (0 : Int) ≤ (k : Int) := by omega
          have bk2 : (k : Int) < (l.length : Int) := by omega
          have bk3 : (k : Int) + 1 < (l.length : Int) := by omega
          have HNE := Lib.hid f4
          have HNE2 := Lib.hid k5
          clear f4 k5 hx hy
          go_wp2
          refine U_region (S := fun w' => w'.cell? ⟨w2.heap.size, 0, none⟩ = some (.bool sht) ∧ w'.cell? ⟨w2.heap.size, 1, none⟩ = some (.slice aht nht cht) ∧ w'.cell? ⟨w2.heap.size, 2, none⟩ = some (.slice Aht Nht Cht) ∧ w'.cell? ⟨bx, ox + k * 9 + 3, none⟩ = some (.bool gx2) ∧ w'.cell? ⟨bx, ox + k * 9 + 4, none⟩ = some (.slice ax2 nx2 cx2) ∧ w'.cell? ⟨bx, ox + k * 9 + 5, none⟩ = some (.slice Ax2 Nx2 Dx2) ∧ w'.cell? ⟨bx, ox + k * 9 + 6, none⟩ = some (.bool gx3) ∧ w'.cell? ⟨bx, ox + k * 9 + 7, none⟩ = some (.slice ax3 nx3 cx3) ∧ w'.cell? ⟨bx, ox + k * 9 + 8, none⟩ = some (.slice Ax3 Nx3 Dx3)) (by kernel_rfl) 19 ?_
          refine AnyU.abs ?_
          intro w21 hW
          have hb : Below wr.heap.size wr w21 := by rw [hW]; exact bDrew _
          replace hs := bStep hs hb
          replace Blt := Blt.mono hb
          replace Bls := Bls.mono hb
          replace hx1 := hx1.mono hb
          replace hx2 := hx2.mono hb
          replace hx3 := hx3.mono hb
          replace hy1 := hy1.mono hb
          replace ht := ht.mono hb
          replace hz := hz.mono hb
          replace Oout := Oout.mono (C2.kept RC.kept) hb
          replace Ex0 := cellK Ex0 hb
          replace Ex1 := cellK Ex1 hb
          replace Ex2 := cellK Ex2 hb
          replace Ex3 := cellK Ex3 hb
          replace Ex4 := cellK Ex4 hb
          replace Ex5 := cellK Ex5 hb
          replace Ex6 := cellK Ex6 hb
          replace Ex7 := cellK Ex7 hb
          replace Ex8 := cellK Ex8 hb
          replace Ey0 := cellK Ey0 hb
          replace Ey1 := cellK Ey1 hb
          replace Ey2 := cellK Ey2 hb
          clear hb hW
          have ct_0 : w21.cell? ⟨w2.heap.size, 0, none⟩ = some (.bool sht) := Blt.at 0 rfl
          have ct_1 : w21.cell? ⟨w2.heap.size, 1, none⟩ = some (.slice aht nht cht) := Blt.at 1 rfl
          have ct_2 : w21.cell? ⟨w2.heap.size, 2, none⟩ = some (.slice Aht Nht Cht) := Blt.at 2 rfl
          have hH := (show w21.cell? ⟨w2.heap.size, 0, none⟩ = some (.bool sht) ∧ w21.cell? ⟨w2.heap.size, 1, none⟩ = some (.slice aht nht cht) ∧ w21.cell? ⟨w2.heap.size, 2, none⟩ = some (.slice Aht Nht Cht) ∧ w21.cell? ⟨bx, ox + k * 9 + 3, none⟩ = some (.bool gx2) ∧ w21.cell? ⟨bx, ox + k * 9 + 4, none⟩ = some (.slice ax2 nx2 cx2) ∧ w21.cell? ⟨bx, ox + k * 9 + 5, none⟩ = some (.slice Ax2 Nx2 Dx2) ∧ w21.cell? ⟨bx, ox + k * 9 + 6, none⟩ = some (.bool gx3) ∧ w21.cell? ⟨bx, ox + k * 9 + 7, none⟩ = some (.slice ax3 nx3 cx3) ∧ w21.cell? ⟨bx, ox + k * 9 + 8, none⟩ = some (.slice Ax3 Nx3 Dx3) from ⟨ct_0, ct_1, ct_2, Ex3, Ex4, Ex5, Ex6, Ex7, Ex8⟩)
          refine U_take (i := 0) (v := ?_) rfl (by kernel_rfl) (by kernel_rfl) (by kernel_rfl) (by kernel_rfl) (fun _ _ _ h => h) (Or.inl ⟨by rfl, ?_⟩) hH ?_
          rotate_left
          · intro w hSw
            try dsimp only at hSw
            go_simp
            try with_reducible rfl
          try simp only [Act.put, List.setIfInBounds_toArray, List.set_cons_zero, List.set_cons_succ]
          refine U_take (i := 1) (v := ?_) rfl (by kernel_rfl) (by kernel_rfl) (by kernel_rfl) (by kernel_rfl) (fun _ _ _ h => h) (Or.inl ⟨by rfl, ?_⟩) hH ?_
          rotate_left
          · intro w hSw
            try dsimp only at hSw
            go_simp
            try with_reducible rfl
          try simp only [Act.put, List.setIfInBounds_toArray, List.set_cons_zero, List.set_cons_succ]
          refine U_take (i := 2) (v := ?_) rfl (by kernel_rfl) (by kernel_rfl) (by kernel_rfl) (by kernel_rfl) (fun _ _ _ h => h) (Or.inl ⟨by rfl, ?_⟩) hH ?_
          rotate_left
          · intro w hSw
            try dsimp only at hSw
            go_simp
            try with_reducible rfl
          try simp only [Act.put, List.setIfInBounds_toArray, List.set_cons_zero, List.set_cons_succ]
          refine U_take (i := 3) (v := ?_) rfl (by kernel_rfl) (by kernel_rfl) (by kernel_rfl) (by kernel_rfl) (fun _ _ _ h => h) (Or.inl ⟨by rfl, ?_⟩) hH ?_
          rotate_left
          · intro w hSw
            try dsimp only at hSw
            go_simp
            try with_reducible rfl
          try simp only [Act.put, List.setIfInBounds_toArray, List.set_cons_zero, List.set_cons_succ]
          refine U_take (i := 4) (v := ?_) rfl (by kernel_rfl) (by kernel_rfl) (by kernel_rfl) (by kernel_rfl) (fun _ _ _ h => h) (Or.inl ⟨by rfl, ?_⟩) hH ?_
          rotate_left
          · intro w hSw
            try dsimp only at hSw
            go_simp
            try with_reducible rfl
          try simp only [Act.put, List.setIfInBounds_toArray, List.set_cons_zero, List.set_cons_succ]
          refine U_take (i := 5) (v := ?_) rfl (by kernel_rfl) (by kernel_rfl) (by kernel_rfl) (by kernel_rfl) (fun _ _ _ h => h) (Or.inl ⟨by rfl, ?_⟩) hH ?_
          rotate_left
          · intro w hSw
            try dsimp only at hSw
            go_simp
            try with_reducible rfl
          try simp only [Act.put, List.setIfInBounds_toArray, List.set_cons_zero, List.set_cons_succ]
          refine U_take (i := 6) (v := ?_) rfl (by kernel_rfl) (by kernel_rfl) (by kernel_rfl) (by kernel_rfl) (fun _ _ _ h => h) (Or.inl ⟨by rfl, ?_⟩) hH ?_
          rotate_left
          · intro w hSw
            try dsimp only at hSw
            go_simp
            try with_reducible rfl
          try simp only [Act.put, List.setIfInBounds_toArray, List.set_cons_zero, List.set_cons_succ]
          refine U_take (i := 7) (v := ?_) rfl (by kernel_rfl) (by kernel_rfl) (by kernel_rfl) (by kernel_rfl) (fun _ _ _ h => h) (Or.inl ⟨by rfl, ?_⟩) hH ?_
          rotate_left
          · intro w hSw
            try dsimp only at hSw
            go_simp
            try with_reducible rfl
          try simp only [Act.put, List.setIfInBounds_toArray, List.set_cons_zero, List.set_cons_succ]
          refine U_take (i := 8) (v := ?_) rfl (by kernel_rfl) (by kernel_rfl) (by kernel_rfl) (by kernel_rfl) (fun _ _ _ h => h) (Or.inl ⟨by rfl, ?_⟩) hH ?_
          rotate_left
          · intro w hSw
            try dsimp only at hSw
            go_simp
            try with_reducible rfl
          try simp only [Act.put, List.setIfInBounds_toArray, List.set_cons_zero, List.set_cons_succ]
          refine U_take (i := 9) (v := ?_) rfl (by kernel_rfl) (by kernel_rfl) (by kernel_rfl) (by kernel_rfl) (fun _ _ _ h => h) (Or.inl ⟨by rfl, ?_⟩) hH ?_
          rotate_left
          · intro w hSw
            try dsimp only at hSw
            go_simp
            try with_reducible rfl
          try simp only [Act.put, List.setIfInBounds_toArray, List.set_cons_zero, List.set_cons_succ]
          refine U_take (i := 10) (v := ?_) rfl (by kernel_rfl) (by kernel_rfl) (by kernel_rfl) (by kernel_rfl) (fun _ _ _ h => h) (Or.inl ⟨by rfl, ?_⟩) hH ?_
          rotate_left
          · intro w hSw
            try dsimp only at hSw
            go_simp
            try with_reducible rfl
          try simp only [Act.put, List.setIfInBounds_toArray, List.set_cons_zero, List.set_cons_succ]
          refine U_take (i := 12) (v := ?_) rfl (by kernel_rfl) (by kernel_rfl) (by kernel_rfl) (by kernel_rfl) (fun _ _ _ h => h) (Or.inl ⟨by rfl, ?_⟩) hH ?_
          rotate_left
          · intro w hSw
            try dsimp only at hSw
            go_simp
            try with_reducible rfl
          try simp only [Act.put, List.setIfInBounds_toArray, List.set_cons_zero, List.set_cons_succ]
          refine U_take (i := 13) (v := ?_) rfl (by kernel_rfl) (by kernel_rfl) (by kernel_rfl) (by kernel_rfl) (fun _ _ _ h => h) (Or.inl ⟨by rfl, ?_⟩) hH ?_
          rotate_left
          · intro w hSw
            try dsimp only at hSw
            go_simp
            try with_reducible rfl
          try simp only [Act.put, List.setIfInBounds_toArray, List.set_cons_zero, List.set_cons_succ]
          refine U_take (i := 14) (v := ?_) rfl (by kernel_rfl) (by kernel_rfl) (by kernel_rfl) (by kernel_rfl) (fun _ _ _ h => h) (Or.inl ⟨by rfl, ?_⟩) hH ?_
          rotate_left
          · intro w hSw
            try dsimp only at hSw
            go_simp
            try with_reducible rfl
          try simp only [Act.put, List.setIfInBounds_toArray, List.set_cons_zero, List.set_cons_succ]
          refine U_take (i := 15) (v := ?_) rfl (by kernel_rfl) (by kernel_rfl) (by kernel_rfl) (by kernel_rfl) (fun _ _ _ h => h) (Or.inl ⟨by rfl, ?_⟩) hH ?_
          rotate_left
          · intro w hSw
            try dsimp only at hSw
            go_simp
            try with_reducible rfl
          try simp only [Act.put, List.setIfInBounds_toArray, List.set_cons_zero, List.set_cons_succ]
          refine U_take (i := 16) (v := ?_) rfl (by kernel_rfl) (by kernel_rfl) (by kernel_rfl) (by kernel_rfl) (fun _ _ _ h => h) (Or.inl ⟨by rfl, ?_⟩) hH ?_
          rotate_left
          · intro w hSw
            try dsimp only at hSw
            go_simp
            try with_reducible rfl
          try simp only [Act.put, List.setIfInBounds_toArray, List.set_cons_zero, List.set_cons_succ]
          clear hH
          refine U_one (i := 11) (by kernel_rfl) rfl (fun K hK => ?_)
          go_simp
          (with_reducible refine (rAdd hx2 hx2 f1 f1).mono ?_)
          rintro e w22 ⟨_, rfl, hth, hb⟩
          obtain ⟨shth, ahth, nhth, chth, Ahth, Nhth, Chth, rfl⟩ := hth.shape
          replace hs := bStep hs hb
          replace Blt := Blt.mono hb
          replace Bls := Bls.mono hb
          replace hx1 := hx1.mono hb
          replace hx2 := hx2.mono hb
          replace hx3 := hx3.mono hb
          replace hy1 := hy1.mono hb
          replace ht := ht.mono hb
          replace hz := hz.mono hb
          replace Oout := Oout.mono (C2.kept RC.kept) hb
          replace ct_0 := cellK ct_0 hb
          replace ct_1 := cellK ct_1 hb
          replace ct_2 := cellK ct_2 hb
          replace Ex3 := cellK Ex3 hb
          replace Ex4 := cellK Ex4 hb
          replace Ex5 := cellK Ex5 hb
          replace Ex6 := cellK Ex6 hb
          replace Ex7 := cellK Ex7 hb
          replace Ex8 := cellK Ex8 hb
          replace Ex0 := cellK Ex0 hb
          replace Ex1 := cellK Ex1 hb
          replace Ex2 := cellK Ex2 hb
          replace Ey0 := cellK Ey0 hb
          replace Ey1 := cellK Ey1 hb
          replace Ey2 := cellK Ey2 hb
          clear hb
          try go_wp2_with fail
          refine hK.out _ _ ⟨ct_0, ct_1, ct_2, Ex3, Ex4, Ex5, Ex6, Ex7, Ex8⟩ (fun hH => ?_)
          clear hK K
          try simp only [Act.put, List.setIfInBounds_toArray, List.set_cons_zero, List.set_cons_succ]
          clear hH
          refine U_one (i := 17) (by kernel_rfl) rfl (fun K hK => ?_)
          go_simp
          (with_reducible refine (r7_quotient _ _ _ _ _ hth hx3 f2 f3 HNE.out).mono ?_)
          rintro e w23 ⟨_, rfl, hqt, hb⟩
          obtain ⟨shqt, ahqt, nhqt, chqt, Ahqt, Nhqt, Chqt, rfl⟩ := hqt.shape
          replace hs := bStep hs hb
          replace Blt := Blt.mono hb
          replace Bls := Bls.mono hb
          replace hx1 := hx1.mono hb
          replace hx2 := hx2.mono hb
          replace hx3 := hx3.mono hb
          replace hy1 := hy1.mono hb
          replace ht := ht.mono hb
          replace hz := hz.mono hb
          replace hth := hth.mono hb
          replace Oout := Oout.mono (C2.kept RC.kept) hb
          replace ct_0 := cellK ct_0 hb
          replace ct_1 := cellK ct_1 hb
          replace ct_2 := cellK ct_2 hb
          replace Ex3 := cellK Ex3 hb
          replace Ex4 := cellK Ex4 hb
          replace Ex5 := cellK Ex5 hb
          replace Ex6 := cellK Ex6 hb
          replace Ex7 := cellK Ex7 hb
          replace Ex8 := cellK Ex8 hb
          replace Ex0 := cellK Ex0 hb
          replace Ex1 := cellK Ex1 hb
          replace Ex2 := cellK Ex2 hb
          replace Ey0 := cellK Ey0 hb
          replace Ey1 := cellK Ey1 hb
          replace Ey2 := cellK Ey2 hb
          clear hb
          try go_wp2_with fail
          refine hK.out _ _ ⟨ct_0, ct_1, ct_2, Ex3, Ex4, Ex5, Ex6, Ex7, Ex8⟩ (fun hH => ?_)
          clear hK K
          try simp only [Act.put, List.setIfInBounds_toArray, List.set_cons_zero, List.set_cons_succ]
          clear hH
          refine U_one (i := 18) (by kernel_rfl) rfl (fun K hK => ?_)
          go_simp
          (with_reducible refine (rAdd ht hqt f6 f5).mono ?_)
          rintro e w24 ⟨_, rfl, htn, hb⟩
          obtain ⟨shtn, ahtn, nhtn, chtn, Ahtn, Nhtn, Chtn, rfl⟩ := htn.shape
          replace hs := bStep hs hb
          replace Blt := Blt.mono hb
          replace Bls := Bls.mono hb
          replace hx1 := hx1.mono hb
          replace hx2 := hx2.mono hb
          replace hx3 := hx3.mono hb
          replace hy1 := hy1.mono hb
          replace ht := ht.mono hb
          replace hz := hz.mono hb
          replace hth := hth.mono hb
          replace hqt := hqt.mono hb
          replace Oout := Oout.mono (C2.kept RC.kept) hb
          replace ct_0 := cellK ct_0 hb
          replace ct_1 := cellK ct_1 hb
          replace ct_2 := cellK ct_2 hb
          replace Ex3 := cellK Ex3 hb
          replace Ex4 := cellK Ex4 hb
          replace Ex5 := cellK Ex5 hb
          replace Ex6 := cellK Ex6 hb
          replace Ex7 := cellK Ex7 hb
          replace Ex8 := cellK Ex8 hb
          replace Ex0 := cellK Ex0 hb
          replace Ex1 := cellK Ex1 hb
          replace Ex2 := cellK Ex2 hb
          replace Ey0 := cellK Ey0 hb
          replace Ey1 := cellK Ey1 hb
          replace Ey2 := cellK Ey2 hb
          clear hb
          try go_wp2_with fail
          refine hK.out _ _ ⟨ct_0, ct_1, ct_2, Ex3, Ex4, Ex5, Ex6, Ex7, Ex8⟩ (fun hH => ?_)
          clear hK K
          try simp only [Act.put, List.setIfInBounds_toArray, List.set_cons_zero, List.set_cons_succ]
          clear hH
          have ct_0 : w24.cell? ⟨w2.heap.size, 0, none⟩ = some (.bool sht) := Blt.at 0 rfl
          have ct_1 : w24.cell? ⟨w2.heap.size, 1, none⟩ = some (.slice aht nht cht) := Blt.at 1 rfl
          have ct_2 : w24.cell? ⟨w2.heap.size, 2, none⟩ = some (.slice Aht Nht Cht) := Blt.at 2 rfl
          have ft := Blt.free
          have Lt : w2.heap.size < w24.heap.size := Blt.lt
          refine U_last (by kernel_rfl) rfl (by kernel_rfl) (fun K hK => ?_)
          go_simp
          refine hK.out _ _ ?_
          clear hK K
          intro w25 hW
          have hsz := hs.size
          have lt := Blt.lt
          have ls := Bls.lt
          have hbw : Below w.heap.size w24 w25 := by rw [hW]; exact (Below.setCell (Below.setCell (Below.setCell (Below.refl w.heap.size w24) (by first | exact Nat.le_refl _ | omega | (have := hs.size; simp; done) | (have := hs.size; simp; omega)) _) (by first | exact Nat.le_refl _ | omega | (have := hs.size; simp; done) | (have := hs.size; simp; omega)) _) (by first | exact Nat.le_refl _ | omega | (have := hs.size; simp; done) | (have := hs.size; simp; omega)) _)
          have hs1 : Below w.heap.size w w25 := hs.trans hbw
          have hk : KeepD w24 w25 := by rw [hW]; exact (KeepD.set (KeepD.set (KeepD.set (KeepD.refl _) Blt.ty (by decide) _ _) (TyB.store Blt.ty _ _) (by decide) _ _) (TyB.store (TyB.store Blt.ty _ _) _ _) (by decide) _ _)
          have ho : OnlyT 45 w24 w25 := by rw [hW]; exact (OnlyT.set (OnlyT.set (OnlyT.set (OnlyT.refl _ _) Blt.ty _ _) (TyB.store Blt.ty _ _) _ _) (TyB.store (TyB.store Blt.ty _ _) _ _) _ _)
          have Bl1t : Bx w25 (w2.heap.size) 45 #[.bool shtn, .slice ahtn nhtn chtn, .slice Ahtn Nhtn Chtn] := by rw [hW]; exact (Bx.set (Bx.set (Bx.set Blt 0 _ rfl) 1 _ rfl) 2 _ rfl)
          have Bl1s : Bx w25 (w2.heap.size + 1) 45 #[.bool shz, .slice ahz nhz chz, .slice Ahz Nhz Chz] := by rw [hW]; exact (Bx.far (Bx.far (Bx.far Bls (by first | omega | (simp; done) | (simp; omega)) _) (by first | omega | (simp; done) | (simp; omega)) _) (by first | omega | (simp; done) | (simp; omega)) _)
          replace hs := hs1
          clear hs1
          replace Blt := Bl1t
          clear Bl1t
          replace Bls := Bl1s
          clear Bl1s
          replace hx1 := hx1.keep hk
          replace hx2 := hx2.keep hk
          replace hx3 := hx3.keep hk
          replace hy1 := hy1.keep hk
          replace ht := ht.keep hk
          replace hz := hz.keep hk
          replace hth := hth.keep hk
          replace hqt := hqt.keep hk
          replace htn := htn.keep hk
          replace Ex0 := cellB Ex0 hbw (by first | assumption | (show _ < _; omega))
          replace Ex1 := cellB Ex1 hbw (by first | assumption | (show _ < _; omega))
          replace Ex2 := cellB Ex2 hbw (by first | assumption | (show _ < _; omega))
          replace Ex3 := cellB Ex3 hbw (by first | assumption | (show _ < _; omega))
          replace Ex4 := cellB Ex4 hbw (by first | assumption | (show _ < _; omega))
          replace Ex5 := cellB Ex5 hbw (by first | assumption | (show _ < _; omega))
          replace Ex6 := cellB Ex6 hbw (by first | assumption | (show _ < _; omega))
          replace Ex7 := cellB Ex7 hbw (by first | assumption | (show _ < _; omega))
          replace Ex8 := cellB Ex8 hbw (by first | assumption | (show _ < _; omega))
          replace Ey0 := cellB Ey0 hbw (by first | assumption | (show _ < _; omega))
          replace Ey1 := cellB Ey1 hbw (by first | assumption | (show _ < _; omega))
          replace Ey2 := cellB Ey2 hbw (by first | assumption | (show _ < _; omega))
          replace Oout := Oout.onlyT (C2.kept RC.kept) ho (by decide) (by decide)
          clear ho
          clear hW hk hsz hbw lt ls
          try simp only [Act.put, List.setIfInBounds_toArray, List.set_cons_zero, List.set_cons_succ]
          clear ct_0 ct_1 ct_2
          go_wp2
          go_upto_region 14 with fail
          go_cut [9] (fun rv wz => ∃ g : Nat, rv = .pointer (some ⟨g, 0, none⟩) ∧ w.heap.size ≤ g ∧ g ≠ w2.heap.size ∧ g ≠ w2.heap.size + 1 ∧ Below w.heap.size w wz ∧ BoxR wz (w2.heap.size) (tmQ l (k + 1)) ∧ BoxR wz (w2.heap.size + 1) (lfQ l k) ∧ BoxR wz g (rfQ l k) ∧ OwnR w.heap.size 47 6 (C2 RC) wz u5 (echoQ l k))
          case first =>
            have SW1 := Lib.hid (IntWalk.i64_in ((k : Int) + 1) (by omega))
            have SW2 := Lib.hid (show (0 : Int) ≤ (k : Int) + 1 by omega)
            have SW3 := Lib.hid (show ((k : Int) + 1).toNat = k + 1 by omega)
            refine U_region (S := fun w' => w'.cell? ⟨bx, ox + k * 9, none⟩ = some (.bool gx1) ∧ w'.cell? ⟨bx, ox + k * 9 + 1, none⟩ = some (.slice ax1 nx1 cx1) ∧ w'.cell? ⟨bx, ox + k * 9 + 2, none⟩ = some (.slice Ax1 Nx1 Dx1) ∧ w'.cell? ⟨bx, ox + (k + 1) * 9, none⟩ = some (.bool gy1) ∧ w'.cell? ⟨bx, ox + (k + 1) * 9 + 1, none⟩ = some (.slice ay1 ny1 cy1) ∧ w'.cell? ⟨bx, ox + (k + 1) * 9 + 2, none⟩ = some (.slice Ay1 Ny1 Dy1)) (by kernel_rfl) 13 ?_
            refine AnyU.abs ?_
            intro w26 hW
            have hb : Below w25.heap.size w25 w26 := by rw [hW]; exact bDrew _
            replace hs := bStep hs hb
            replace Blt := Blt.mono hb
            replace Bls := Bls.mono hb
            replace hx1 := hx1.mono hb
            replace hx2 := hx2.mono hb
            replace hx3 := hx3.mono hb
            replace hy1 := hy1.mono hb
            replace ht := ht.mono hb
            replace hz := hz.mono hb
            replace hth := hth.mono hb
            replace hqt := hqt.mono hb
            replace htn := htn.mono hb
            replace Oout := Oout.mono (C2.kept RC.kept) hb
            replace Ex0 := cellK Ex0 hb
            replace Ex1 := cellK Ex1 hb
            replace Ex2 := cellK Ex2 hb
            replace Ex3 := cellK Ex3 hb
            replace Ex4 := cellK Ex4 hb
            replace Ex5 := cellK Ex5 hb
            replace Ex6 := cellK Ex6 hb
            replace Ex7 := cellK Ex7 hb
            replace Ex8 := cellK Ex8 hb
            replace Ey0 := cellK Ey0 hb
            replace Ey1 := cellK Ey1 hb
            replace Ey2 := cellK Ey2 hb
            clear hb hW
            have hH := (show w26.cell? ⟨bx, ox + k * 9, none⟩ = some (.bool gx1) ∧ w26.cell? ⟨bx, ox + k * 9 + 1, none⟩ = some (.slice ax1 nx1 cx1) ∧ w26.cell? ⟨bx, ox + k * 9 + 2, none⟩ = some (.slice Ax1 Nx1 Dx1) ∧ w26.cell? ⟨bx, ox + (k + 1) * 9, none⟩ = some (.bool gy1) ∧ w26.cell? ⟨bx, ox + (k + 1) * 9 + 1, none⟩ = some (.slice ay1 ny1 cy1) ∧ w26.cell? ⟨bx, ox + (k + 1) * 9 + 2, none⟩ = some (.slice Ay1 Ny1 Dy1) from ⟨Ex0, Ex1, Ex2, Ey0, Ey1, Ey2⟩)
            refine U_take (i := 0) (v := ?_) rfl (by kernel_rfl) (by kernel_rfl) (by kernel_rfl) (by kernel_rfl) (fun _ _ _ h => h) (Or.inl ⟨by rfl, ?_⟩) hH ?_
            rotate_left
            · intro w hSw
              try dsimp only at hSw
              go_simp
              try with_reducible rfl
            try simp only [Act.put, List.setIfInBounds_toArray, List.set_cons_zero, List.set_cons_succ]
            refine U_take (i := 1) (v := ?_) rfl (by kernel_rfl) (by kernel_rfl) (by kernel_rfl) (by kernel_rfl) (fun _ _ _ h => h) (Or.inl ⟨by rfl, ?_⟩) hH ?_
            rotate_left
            · intro w hSw
              try dsimp only at hSw
              go_simp
              try with_reducible rfl
            try simp only [Act.put, List.setIfInBounds_toArray, List.set_cons_zero, List.set_cons_succ]
            refine U_take (i := 2) (v := ?_) rfl (by kernel_rfl) (by kernel_rfl) (by kernel_rfl) (by kernel_rfl) (fun _ _ _ h => h) (Or.inl ⟨by rfl, ?_⟩) hH ?_
            rotate_left
            · intro w hSw
              try dsimp only at hSw
              have q0 := SW1.out
              have q1 := SW2.out
              have q2 := SW3.out
              go_simp
              try with_reducible rfl
            try simp only [Act.put, List.setIfInBounds_toArray, List.set_cons_zero, List.set_cons_succ]
            refine U_take (i := 3) (v := ?_) rfl (by kernel_rfl) (by kernel_rfl) (by kernel_rfl) (by kernel_rfl) (fun _ _ _ h => h) (Or.inl ⟨by rfl, ?_⟩) hH ?_
            rotate_left
            · intro w hSw
              try dsimp only at hSw
              go_simp
              try with_reducible rfl
            try simp only [Act.put, List.setIfInBounds_toArray, List.set_cons_zero, List.set_cons_succ]
            refine U_take (i := 4) (v := ?_) rfl (by kernel_rfl) (by kernel_rfl) (by kernel_rfl) (by kernel_rfl) (fun _ _ _ h => h) (Or.inl ⟨by rfl, ?_⟩) hH ?_
            rotate_left
            · intro w hSw
              try dsimp only at hSw
              go_simp
              try with_reducible rfl
            try simp only [Act.put, List.setIfInBounds_toArray, List.set_cons_zero, List.set_cons_succ]
            refine U_take (i := 5) (v := ?_) rfl (by kernel_rfl) (by kernel_rfl) (by kernel_rfl) (by kernel_rfl) (fun _ _ _ h => h) (Or.inl ⟨by rfl, ?_⟩) hH ?_
            rotate_left
            · intro w hSw
              try dsimp only at hSw
              go_simp
              try with_reducible rfl
            try simp only [Act.put, List.setIfInBounds_toArray, List.set_cons_zero, List.set_cons_succ]
            refine U_take (i := 6) (v := ?_) rfl (by kernel_rfl) (by kernel_rfl) (by kernel_rfl) (by kernel_rfl) (fun _ _ _ h => h) (Or.inl ⟨by rfl, ?_⟩) hH ?_
            rotate_left
            · intro w hSw
              try dsimp only at hSw
              go_simp
              try with_reducible rfl
            try simp only [Act.put, List.setIfInBounds_toArray, List.set_cons_zero, List.set_cons_succ]
            refine U_take (i := 7) (v := ?_) rfl (by kernel_rfl) (by kernel_rfl) (by kernel_rfl) (by kernel_rfl) (fun _ _ _ h => h) (Or.inl ⟨by rfl, ?_⟩) hH ?_
            rotate_left
            · intro w hSw
              try dsimp only at hSw
              have q0 := SW1.out
              have q1 := SW2.out
              have q2 := SW3.out
              go_simp
              try with_reducible rfl
            try simp only [Act.put, List.setIfInBounds_toArray, List.set_cons_zero, List.set_cons_succ]
            refine U_take (i := 8) (v := ?_) rfl (by kernel_rfl) (by kernel_rfl) (by kernel_rfl) (by kernel_rfl) (fun _ _ _ h => h) (Or.inl ⟨by rfl, ?_⟩) hH ?_
            rotate_left
            · intro w hSw
              try dsimp only at hSw
              have q0 := SW1.out
              have q1 := SW2.out
              have q2 := SW3.out
              go_simp
              try with_reducible rfl
            try simp only [Act.put, List.setIfInBounds_toArray, List.set_cons_zero, List.set_cons_succ]
            refine U_take (i := 9) (v := ?_) rfl (by kernel_rfl) (by kernel_rfl) (by kernel_rfl) (by kernel_rfl) (fun _ _ _ h => h) (Or.inl ⟨by rfl, ?_⟩) hH ?_
            rotate_left
            · intro w hSw
              try dsimp only at hSw
              go_simp
              try with_reducible rfl
            try simp only [Act.put, List.setIfInBounds_toArray, List.set_cons_zero, List.set_cons_succ]
            refine U_take (i := 10) (v := ?_) rfl (by kernel_rfl) (by kernel_rfl) (by kernel_rfl) (by kernel_rfl) (fun _ _ _ h => h) (Or.inl ⟨by rfl, ?_⟩) hH ?_
            rotate_left
            · intro w hSw
              try dsimp only at hSw
              go_simp
              try with_reducible rfl
            try simp only [Act.put, List.setIfInBounds_toArray, List.set_cons_zero, List.set_cons_succ]
            refine U_two (i := 11) (j := 12) (by kernel_rfl) rfl rfl (fun K hK => ?_) (fun K hK => ?_)
            · clear hH
              go_simp
              (with_reducible refine (r7_reflect _ _ _ _ _ hx1 hy1 k1 k2 k3 k4 HNE2.out).mono ?_)
              rintro e w27 ⟨_, rfl, hr, hb⟩
              obtain ⟨shr, ahr, nhr, chr, Ahr, Nhr, Chr, rfl⟩ := hr.shape
              replace hs := bStep hs hb
              replace Blt := Blt.mono hb
              replace Bls := Bls.mono hb
              replace hx1 := hx1.mono hb
              replace hx2 := hx2.mono hb
              replace hx3 := hx3.mono hb
              replace hy1 := hy1.mono hb
              replace ht := ht.mono hb
              replace hz := hz.mono hb
              replace hth := hth.mono hb
              replace hqt := hqt.mono hb
              replace htn := htn.mono hb
              replace Oout := Oout.mono (C2.kept RC.kept) hb
              replace Ex0 := cellK Ex0 hb
              replace Ex1 := cellK Ex1 hb
              replace Ex2 := cellK Ex2 hb
              replace Ey0 := cellK Ey0 hb
              replace Ey1 := cellK Ey1 hb
              replace Ey2 := cellK Ey2 hb
              replace Ex3 := cellK Ex3 hb
              replace Ex4 := cellK Ex4 hb
              replace Ex5 := cellK Ex5 hb
              replace Ex6 := cellK Ex6 hb
              replace Ex7 := cellK Ex7 hb
              replace Ex8 := cellK Ex8 hb
              clear hb
              try go_wp2_with fail
              refine hK.out _ _ ⟨Ex0, Ex1, Ex2, Ey0, Ey1, Ey2⟩ (fun hH => ?_)
              clear hK K
              try simp only [Act.put, List.setIfInBounds_toArray, List.set_cons_zero, List.set_cons_succ]
              clear hH
              refine U_one (i := 12) (by kernel_rfl) rfl (fun K hK => ?_)
              go_simp
              generalize hWn : (w27.alloc (.cells #[.bool false, .slice none 0 0, .slice none 0 0] 45)) = w28
              have hb : Below w27.heap.size w27 w28 := by rw [← hWn]; exact (Below.refl _ _).alloc (Nat.le_refl _) _
              have Blr : Bx w28 (w27.heap.size) 45 #[.bool false, .slice none 0 0, .slice none 0 0] := by rw [← hWn]; exact Bx.new _ _ _
              have nt_r : w2.heap.size ≠ w27.heap.size := by have := Blt.lt; omega
              have ns_r : w2.heap.size + 1 ≠ w27.heap.size := by have := Bls.lt; omega
              have sz_r : w.heap.size ≤ w27.heap.size := hs.size
              replace hs := bStep hs hb
              replace Blt := Blt.mono hb
              replace Bls := Bls.mono hb
              replace hx1 := hx1.mono hb
              replace hx2 := hx2.mono hb
              replace hx3 := hx3.mono hb
              replace hy1 := hy1.mono hb
              replace ht := ht.mono hb
              replace hz := hz.mono hb
              replace hth := hth.mono hb
              replace hqt := hqt.mono hb
              replace htn := htn.mono hb
              replace hr := hr.mono hb
              replace Oout := Oout.mono (C2.kept RC.kept) hb
              replace Ex0 := cellK Ex0 hb
              replace Ex1 := cellK Ex1 hb
              replace Ex2 := cellK Ex2 hb
              replace Ey0 := cellK Ey0 hb
              replace Ey1 := cellK Ey1 hb
              replace Ey2 := cellK Ey2 hb
              replace Ex3 := cellK Ex3 hb
              replace Ex4 := cellK Ex4 hb
              replace Ex5 := cellK Ex5 hb
              replace Ex6 := cellK Ex6 hb
              replace Ex7 := cellK Ex7 hb
              replace Ex8 := cellK Ex8 hb
              clear hb hWn
              refine hK.out _ _ ⟨Ex0, Ex1, Ex2, Ey0, Ey1, Ey2⟩ (fun hH => ?_)
              clear hK K
              try simp only [Act.put, List.setIfInBounds_toArray, List.set_cons_zero, List.set_cons_succ]
              clear hH
              have cr_0 : w28.cell? ⟨w27.heap.size, 0, none⟩ = some (.bool false) := Blr.at 0 rfl
              have cr_1 : w28.cell? ⟨w27.heap.size, 1, none⟩ = some (.slice none 0 0) := Blr.at 1 rfl
              have cr_2 : w28.cell? ⟨w27.heap.size, 2, none⟩ = some (.slice none 0 0) := Blr.at 2 rfl
              have fr := Blr.free
              have Lr : w27.heap.size < w28.heap.size := Blr.lt
              refine U_last (by kernel_rfl) rfl (by kernel_rfl) (fun K hK => ?_)
              go_simp
              refine hK.out _ _ ?_
              clear hK K
              intro w29 hW
              have hsz := hs.size
              have lt := Blt.lt
              have ls := Bls.lt
              have lr := Blr.lt
              have hbw : Below w.heap.size w28 w29 := by rw [hW]; exact (Below.setCell (Below.setCell (Below.setCell (Below.refl w.heap.size w28) (by first | exact Nat.le_refl _ | omega | (have := hs.size; simp; done) | (have := hs.size; simp; omega)) _) (by first | exact Nat.le_refl _ | omega | (have := hs.size; simp; done) | (have := hs.size; simp; omega)) _) (by first | exact Nat.le_refl _ | omega | (have := hs.size; simp; done) | (have := hs.size; simp; omega)) _)
              have hs1 : Below w.heap.size w w29 := hs.trans hbw
              have hk : KeepD w28 w29 := by rw [hW]; exact (KeepD.set (KeepD.set (KeepD.set (KeepD.refl _) Blr.ty (by decide) _ _) (TyB.store Blr.ty _ _) (by decide) _ _) (TyB.store (TyB.store Blr.ty _ _) _ _) (by decide) _ _)
              have ho : OnlyT 45 w28 w29 := by rw [hW]; exact (OnlyT.set (OnlyT.set (OnlyT.set (OnlyT.refl _ _) Blr.ty _ _) (TyB.store Blr.ty _ _) _ _) (TyB.store (TyB.store Blr.ty _ _) _ _) _ _)
              have Bl1t : Bx w29 (w2.heap.size) 45 #[.bool shtn, .slice ahtn nhtn chtn, .slice Ahtn Nhtn Chtn] := by rw [hW]; exact (Bx.far (Bx.far (Bx.far Blt (by first | omega | (simp; done) | (simp; omega)) _) (by first | omega | (simp; done) | (simp; omega)) _) (by first | omega | (simp; done) | (simp; omega)) _)
              have Bl1s : Bx w29 (w2.heap.size + 1) 45 #[.bool shz, .slice ahz nhz chz, .slice Ahz Nhz Chz] := by rw [hW]; exact (Bx.far (Bx.far (Bx.far Bls (by first | omega | (simp; done) | (simp; omega)) _) (by first | omega | (simp; done) | (simp; omega)) _) (by first | omega | (simp; done) | (simp; omega)) _)
              have Bl1r : Bx w29 (w27.heap.size) 45 #[.bool shr, .slice ahr nhr chr, .slice Ahr Nhr Chr] := by rw [hW]; exact (Bx.set (Bx.set (Bx.set Blr 0 _ rfl) 1 _ rfl) 2 _ rfl)
              replace hs := hs1
              clear hs1
              replace Blt := Bl1t
              clear Bl1t
              replace Bls := Bl1s
              clear Bl1s
              replace Blr := Bl1r
              clear Bl1r
              replace hx1 := hx1.keep hk
              replace hx2 := hx2.keep hk
              replace hx3 := hx3.keep hk
              replace hy1 := hy1.keep hk
              replace ht := ht.keep hk
              replace hz := hz.keep hk
              replace hth := hth.keep hk
              replace hqt := hqt.keep hk
              replace htn := htn.keep hk
              replace hr := hr.keep hk
              replace Ex0 := cellB Ex0 hbw (by first | assumption | (show _ < _; omega))
              replace Ex1 := cellB Ex1 hbw (by first | assumption | (show _ < _; omega))
              replace Ex2 := cellB Ex2 hbw (by first | assumption | (show _ < _; omega))
              replace Ex3 := cellB Ex3 hbw (by first | assumption | (show _ < _; omega))
              replace Ex4 := cellB Ex4 hbw (by first | assumption | (show _ < _; omega))
              replace Ex5 := cellB Ex5 hbw (by first | assumption | (show _ < _; omega))
              replace Ex6 := cellB Ex6 hbw (by first | assumption | (show _ < _; omega))
              replace Ex7 := cellB Ex7 hbw (by first | assumption | (show _ < _; omega))
              replace Ex8 := cellB Ex8 hbw (by first | assumption | (show _ < _; omega))
              replace Ey0 := cellB Ey0 hbw (by first | assumption | (show _ < _; omega))
              replace Ey1 := cellB Ey1 hbw (by first | assumption | (show _ < _; omega))
              replace Ey2 := cellB Ey2 hbw (by first | assumption | (show _ < _; omega))
              replace Oout := Oout.onlyT (C2.kept RC.kept) ho (by decide) (by decide)
              clear ho
              clear hW hk hsz hbw lt ls lr
              try simp only [Act.put, List.setIfInBounds_toArray, List.set_cons_zero, List.set_cons_succ]
              go_wp2_with fail
              go_meet
              exact ⟨_, rfl, by first | exact sz_r | omega, by omega, by omega, hs, ⟨_, _, _, _, _, _, _, Blt, htn⟩, ⟨_, _, _, _, _, _, _, Bls, hz⟩, ⟨_, _, _, _, _, _, _, Blr, hr⟩, Oout⟩
            · clear hH
              go_simp
              generalize hWn : (w26.alloc (.cells #[.bool false, .slice none 0 0, .slice none 0 0] 45)) = w27
              have hb : Below w26.heap.size w26 w27 := by rw [← hWn]; exact (Below.refl _ _).alloc (Nat.le_refl _) _
              have Blr : Bx w27 (w26.heap.size) 45 #[.bool false, .slice none 0 0, .slice none 0 0] := by rw [← hWn]; exact Bx.new _ _ _
              have nt_r : w2.heap.size ≠ w26.heap.size := by have := Blt.lt; omega
              have ns_r : w2.heap.size + 1 ≠ w26.heap.size := by have := Bls.lt; omega
              have sz_r : w.heap.size ≤ w26.heap.size := hs.size
              replace hs := bStep hs hb
              replace Blt := Blt.mono hb
              replace Bls := Bls.mono hb
              replace hx1 := hx1.mono hb
              replace hx2 := hx2.mono hb
              replace hx3 := hx3.mono hb
              replace hy1 := hy1.mono hb
              replace ht := ht.mono hb
              replace hz := hz.mono hb
              replace hth := hth.mono hb
              replace hqt := hqt.mono hb
              replace htn := htn.mono hb
              replace Oout := Oout.mono (C2.kept RC.kept) hb
              replace Ex0 := cellK Ex0 hb
              replace Ex1 := cellK Ex1 hb
              replace Ex2 := cellK Ex2 hb
              replace Ey0 := cellK Ey0 hb
              replace Ey1 := cellK Ey1 hb
              replace Ey2 := cellK Ey2 hb
              replace Ex3 := cellK Ex3 hb
              replace Ex4 := cellK Ex4 hb
              replace Ex5 := cellK Ex5 hb
              replace Ex6 := cellK Ex6 hb
              replace Ex7 := cellK Ex7 hb
              replace Ex8 := cellK Ex8 hb
              clear hb hWn
              refine hK.out _ _ ⟨Ex0, Ex1, Ex2, Ey0, Ey1, Ey2⟩ (fun hH => ?_)
              clear hK K
              try simp only [Act.put, List.setIfInBounds_toArray, List.set_cons_zero, List.set_cons_succ]
              clear hH
              refine U_one (i := 11) (by kernel_rfl) rfl (fun K hK => ?_)
              go_simp
              (with_reducible refine (r7_reflect _ _ _ _ _ hx1 hy1 k1 k2 k3 k4 HNE2.out).mono ?_)
              rintro e w28 ⟨_, rfl, hr, hb⟩
              obtain ⟨shr, ahr, nhr, chr, Ahr, Nhr, Chr, rfl⟩ := hr.shape
              replace hs := bStep hs hb
              replace Blt := Blt.mono hb
              replace Bls := Bls.mono hb
              replace Blr := Blr.mono hb
              replace hx1 := hx1.mono hb
              replace hx2 := hx2.mono hb
              replace hx3 := hx3.mono hb
              replace hy1 := hy1.mono hb
              replace ht := ht.mono hb
              replace hz := hz.mono hb
              replace hth := hth.mono hb
              replace hqt := hqt.mono hb
              replace htn := htn.mono hb
              replace Oout := Oout.mono (C2.kept RC.kept) hb
              replace Ex0 := cellK Ex0 hb
              replace Ex1 := cellK Ex1 hb
              replace Ex2 := cellK Ex2 hb
              replace Ey0 := cellK Ey0 hb
              replace Ey1 := cellK Ey1 hb
              replace Ey2 := cellK Ey2 hb
              replace Ex3 := cellK Ex3 hb
              replace Ex4 := cellK Ex4 hb
              replace Ex5 := cellK Ex5 hb
              replace Ex6 := cellK Ex6 hb
              replace Ex7 := cellK Ex7 hb
              replace Ex8 := cellK Ex8 hb
              clear hb
              try go_wp2_with fail
              refine hK.out _ _ ⟨Ex0, Ex1, Ex2, Ey0, Ey1, Ey2⟩ (fun hH => ?_)
              clear hK K
              try simp only [Act.put, List.setIfInBounds_toArray, List.set_cons_zero, List.set_cons_succ]
              clear hH
              have cr_0 : w28.cell? ⟨w26.heap.size, 0, none⟩ = some (.bool false) := Blr.at 0 rfl
              have cr_1 : w28.cell? ⟨w26.heap.size, 1, none⟩ = some (.slice none 0 0) := Blr.at 1 rfl
              have cr_2 : w28.cell? ⟨w26.heap.size, 2, none⟩ = some (.slice none 0 0) := Blr.at 2 rfl
              have fr := Blr.free
              have Lr : w26.heap.size < w28.heap.size := Blr.lt
              refine U_last (by kernel_rfl) rfl (by kernel_rfl) (fun K hK => ?_)
              go_simp
              refine hK.out _ _ ?_
              clear hK K
              intro w29 hW
              have hsz := hs.size
              have lt := Blt.lt
              have ls := Bls.lt
              have lr := Blr.lt
              have hbw : Below w.heap.size w28 w29 := by rw [hW]; exact (Below.setCell (Below.setCell (Below.setCell (Below.refl w.heap.size w28) (by first | exact Nat.le_refl _ | omega | (have := hs.size; simp; done) | (have := hs.size; simp; omega)) _) (by first | exact Nat.le_refl _ | omega | (have := hs.size; simp; done) | (have := hs.size; simp; omega)) _) (by first | exact Nat.le_refl _ | omega | (have := hs.size; simp; done) | (have := hs.size; simp; omega)) _)
              have hs1 : Below w.heap.size w w29 := hs.trans hbw
              have hk : KeepD w28 w29 := by rw [hW]; exact (KeepD.set (KeepD.set (KeepD.set (KeepD.refl _) Blr.ty (by decide) _ _) (TyB.store Blr.ty _ _) (by decide) _ _) (TyB.store (TyB.store Blr.ty _ _) _ _) (by decide) _ _)
              have ho : OnlyT 45 w28 w29 := by rw [hW]; exact (OnlyT.set (OnlyT.set (OnlyT.set (OnlyT.refl _ _) Blr.ty _ _) (TyB.store Blr.ty _ _) _ _) (TyB.store (TyB.store Blr.ty _ _) _ _) _ _)
              have Bl1t : Bx w29 (w2.heap.size) 45 #[.bool shtn, .slice ahtn nhtn chtn, .slice Ahtn Nhtn Chtn] := by rw [hW]; exact (Bx.far (Bx.far (Bx.far Blt (by first | omega | (simp; done) | (simp; omega)) _) (by first | omega | (simp; done) | (simp; omega)) _) (by first | omega | (simp; done) | (simp; omega)) _)
              have Bl1s : Bx w29 (w2.heap.size + 1) 45 #[.bool shz, .slice ahz nhz chz, .slice Ahz Nhz Chz] := by rw [hW]; exact (Bx.far (Bx.far (Bx.far Bls (by first | omega | (simp; done) | (simp; omega)) _) (by first | omega | (simp; done) | (simp; omega)) _) (by first | omega | (simp; done) | (simp; omega)) _)
              have Bl1r : Bx w29 (w26.heap.size) 45 #[.bool shr, .slice ahr nhr chr, .slice Ahr Nhr Chr] := by rw [hW]; exact (Bx.set (Bx.set (Bx.set Blr 0 _ rfl) 1 _ rfl) 2 _ rfl)
              replace hs := hs1
              clear hs1
              replace Blt := Bl1t
              clear Bl1t
              replace Bls := Bl1s
              clear Bl1s
              replace Blr := Bl1r
              clear Bl1r
              replace hx1 := hx1.keep hk
              replace hx2 := hx2.keep hk
              replace hx3 := hx3.keep hk
              replace hy1 := hy1.keep hk
              replace ht := ht.keep hk
              replace hz := hz.keep hk
              replace hth := hth.keep hk
              replace hqt := hqt.keep hk
              replace htn := htn.keep hk
              replace hr := hr.keep hk
              replace Ex0 := cellB Ex0 hbw (by first | assumption | (show _ < _; omega))
              replace Ex1 := cellB Ex1 hbw (by first | assumption | (show _ < _; omega))
              replace Ex2 := cellB Ex2 hbw (by first | assumption | (show _ < _; omega))
              replace Ex3 := cellB Ex3 hbw (by first | assumption | (show _ < _; omega))
              replace Ex4 := cellB Ex4 hbw (by first | assumption | (show _ < _; omega))
              replace Ex5 := cellB Ex5 hbw (by first | assumption | (show _ < _; omega))
              replace Ex6 := cellB Ex6 hbw (by first | assumption | (show _ < _; omega))
              replace Ex7 := cellB Ex7 hbw (by first | assumption | (show _ < _; omega))
              replace Ex8 := cellB Ex8 hbw (by first | assumption | (show _ < _; omega))
              replace Ey0 := cellB Ey0 hbw (by first | assumption | (show _ < _; omega))
              replace Ey1 := cellB Ey1 hbw (by first | assumption | (show _ < _; omega))
              replace Ey2 := cellB Ey2 hbw (by first | assumption | (show _ < _; omega))
              replace Oout := Oout.onlyT (C2.kept RC.kept) ho (by decide) (by decide)
              clear ho
              clear hW hk hsz hbw lt ls lr
              try simp only [Act.put, List.setIfInBounds_toArray, List.set_cons_zero, List.set_cons_succ]
              go_wp2_with fail
              go_meet
              exact ⟨_, rfl, by first | exact sz_r | omega, by omega, by omega, hs, ⟨_, _, _, _, _, _, _, Blt, htn⟩, ⟨_, _, _, _, _, _, _, Bls, hz⟩, ⟨_, _, _, _, _, _, _, Blr, hr⟩, Oout⟩
          case rest =>
            clear hs Blt Bls ht hz htn Oout hx1 hx2 hx3 hy1 Ex0 Ex1 Ex2 Ex3 Ex4 Ex5 Ex6 Ex7 Ex8 Ey0 Ey1 Ey2
            obtain ⟨g, rfl, hg1, hg2, hg3, hs, ⟨sht, aht, nht, cht, Aht, Nht, Cht, Blt, ht⟩, ⟨shz, ahz, nhz, chz, Ahz, Nhz, Chz, Bls, hz⟩, ⟨shr, ahr, nhr, chr, Ahr, Nhr, Chr, Blr, hr⟩, Oout⟩ := hcut
            go_wp2
            refine U_region (S := fun w' => w'.cell? ⟨w2.heap.size, 0, none⟩ = some (.bool sht) ∧ w'.cell? ⟨w2.heap.size, 1, none⟩ = some (.slice aht nht cht) ∧ w'.cell? ⟨w2.heap.size, 2, none⟩ = some (.slice Aht Nht Cht) ∧ w'.cell? ⟨w2.heap.size + 1, 0, none⟩ = some (.bool shz) ∧ w'.cell? ⟨w2.heap.size + 1, 1, none⟩ = some (.slice ahz nhz chz) ∧ w'.cell? ⟨w2.heap.size + 1, 2, none⟩ = some (.slice Ahz Nhz Chz) ∧ w'.cell? ⟨g, 0, none⟩ = some (.bool shr) ∧ w'.cell? ⟨g, 1, none⟩ = some (.slice ahr nhr chr) ∧ w'.cell? ⟨g, 2, none⟩ = some (.slice Ahr Nhr Chr)) (by kernel_rfl) 8 ?_
            refine AnyU.abs ?_
            intro w61 hW
            have hb : Below wc.heap.size wc w61 := by rw [hW]; exact bDrew _
            replace hs := bStep hs hb
            replace Blt := Blt.mono hb
            replace Bls := Bls.mono hb
            replace Blr := Blr.mono hb
            replace ht := ht.mono hb
            replace hz := hz.mono hb
            replace hr := hr.mono hb
            replace Oout := Oout.mono (C2.kept RC.kept) hb
            clear hb hW
            have ct_0 : w61.cell? ⟨w2.heap.size, 0, none⟩ = some (.bool sht) := Blt.at 0 rfl
            have ct_1 : w61.cell? ⟨w2.heap.size, 1, none⟩ = some (.slice aht nht cht) := Blt.at 1 rfl
            have ct_2 : w61.cell? ⟨w2.heap.size, 2, none⟩ = some (.slice Aht Nht Cht) := Blt.at 2 rfl
            have cs_0 : w61.cell? ⟨w2.heap.size + 1, 0, none⟩ = some (.bool shz) := Bls.at 0 rfl
            have cs_1 : w61.cell? ⟨w2.heap.size + 1, 1, none⟩ = some (.slice ahz nhz chz) := Bls.at 1 rfl
            have cs_2 : w61.cell? ⟨w2.heap.size + 1, 2, none⟩ = some (.slice Ahz Nhz Chz) := Bls.at 2 rfl
            have cr_0 : w61.cell? ⟨g, 0, none⟩ = some (.bool shr) := Blr.at 0 rfl
            have cr_1 : w61.cell? ⟨g, 1, none⟩ = some (.slice ahr nhr chr) := Blr.at 1 rfl
            have cr_2 : w61.cell? ⟨g, 2, none⟩ = some (.slice Ahr Nhr Chr) := Blr.at 2 rfl
            have hH := (show w61.cell? ⟨w2.heap.size, 0, none⟩ = some (.bool sht) ∧ w61.cell? ⟨w2.heap.size, 1, none⟩ = some (.slice aht nht cht) ∧ w61.cell? ⟨w2.heap.size, 2, none⟩ = some (.slice Aht Nht Cht) ∧ w61.cell? ⟨w2.heap.size + 1, 0, none⟩ = some (.bool shz) ∧ w61.cell? ⟨w2.heap.size + 1, 1, none⟩ = some (.slice ahz nhz chz) ∧ w61.cell? ⟨w2.heap.size + 1, 2, none⟩ = some (.slice Ahz Nhz Chz) ∧ w61.cell? ⟨g, 0, none⟩ = some (.bool shr) ∧ w61.cell? ⟨g, 1, none⟩ = some (.slice ahr nhr chr) ∧ w61.cell? ⟨g, 2, none⟩ = some (.slice Ahr Nhr Chr) from ⟨ct_0, ct_1, ct_2, cs_0, cs_1, cs_2, cr_0, cr_1, cr_2⟩)
            refine U_take (i := 0) (v := ?_) rfl (by kernel_rfl) (by kernel_rfl) (by kernel_rfl) (by kernel_rfl) (fun _ _ _ h => h) (Or.inl ⟨by rfl, ?_⟩) hH ?_
            rotate_left
            · intro w hSw
              try dsimp only at hSw
              go_simp
              try with_reducible rfl
            try simp only [Act.put, List.setIfInBounds_toArray, List.set_cons_zero, List.set_cons_succ]
            refine U_take (i := 1) (v := ?_) rfl (by kernel_rfl) (by kernel_rfl) (by kernel_rfl) (by kernel_rfl) (fun _ _ _ h => h) (Or.inl ⟨by rfl, ?_⟩) hH ?_
            rotate_left
            · intro w hSw
              try dsimp only at hSw
              go_simp
              try with_reducible rfl
            try simp only [Act.put, List.setIfInBounds_toArray, List.set_cons_zero, List.set_cons_succ]
            refine U_take (i := 2) (v := ?_) rfl (by kernel_rfl) (by kernel_rfl) (by kernel_rfl) (by kernel_rfl) (fun _ _ _ h => h) (Or.inl ⟨by rfl, ?_⟩) hH ?_
            rotate_left
            · intro w hSw
              try dsimp only at hSw
              go_simp
              try with_reducible rfl
            try simp only [Act.put, List.setIfInBounds_toArray, List.set_cons_zero, List.set_cons_succ]
            refine U_take (i := 3) (v := ?_) rfl (by kernel_rfl) (by kernel_rfl) (by kernel_rfl) (by kernel_rfl) (fun _ _ _ h => h) (Or.inl ⟨by rfl, ?_⟩) hH ?_
            rotate_left
            · intro w hSw
              try dsimp only at hSw
              go_simp
              try with_reducible rfl
            try simp only [Act.put, List.setIfInBounds_toArray, List.set_cons_zero, List.set_cons_succ]
            clear hH
            refine U_one (i := 4) (by kernel_rfl) rfl (fun K hK => ?_)
            go_simp
            (with_reducible refine (rMul hz hr e2 e1).mono ?_)
            rintro e w62 ⟨_, rfl, hm, hb⟩
            obtain ⟨shm, ahm, nhm, chm, Ahm, Nhm, Chm, rfl⟩ := hm.shape
            replace hs := bStep hs hb
            replace Blt := Blt.mono hb
            replace Bls := Bls.mono hb
            replace Blr := Blr.mono hb
            replace ht := ht.mono hb
            replace hz := hz.mono hb
            replace hr := hr.mono hb
            replace Oout := Oout.mono (C2.kept RC.kept) hb
            replace ct_0 := cellK ct_0 hb
            replace ct_1 := cellK ct_1 hb
            replace ct_2 := cellK ct_2 hb
            replace cs_0 := cellK cs_0 hb
            replace cs_1 := cellK cs_1 hb
            replace cs_2 := cellK cs_2 hb
            replace cr_0 := cellK cr_0 hb
            replace cr_1 := cellK cr_1 hb
            replace cr_2 := cellK cr_2 hb
            clear hb
            try go_wp2_with fail
            refine hK.out _ _ ⟨ct_0, ct_1, ct_2, cs_0, cs_1, cs_2, cr_0, cr_1, cr_2⟩ (fun hH => ?_)
            clear hK K
            try simp only [Act.put, List.setIfInBounds_toArray, List.set_cons_zero, List.set_cons_succ]
            refine U_take (i := 5) (v := ?_) rfl (by kernel_rfl) (by kernel_rfl) (by kernel_rfl) (by kernel_rfl) (fun _ _ _ h => h) (Or.inl ⟨by rfl, ?_⟩) hH ?_
            rotate_left
            · intro w hSw
              try dsimp only at hSw
              go_simp
              try with_reducible rfl
            try simp only [Act.put, List.setIfInBounds_toArray, List.set_cons_zero, List.set_cons_succ]
            clear hH
            refine U_one (i := 6) (by kernel_rfl) rfl (fun K hK => ?_)
            go_simp
            generalize hWn : (w62.alloc (.cells #[.bool sht, .slice aht nht cht, .slice Aht Nht Cht, .bool shm, .slice ahm nhm chm, .slice Ahm Nhm Chm] 47)) = w63
            have hb : Below w62.heap.size w62 w63 := by rw [← hWn]; exact (Below.refl _ _).alloc (Nat.le_refl _) _
            have Ble : Bx w63 (w62.heap.size) 47 #[.bool sht, .slice aht nht cht, .slice Aht Nht Cht, .bool shm, .slice ahm nhm chm, .slice Ahm Nhm Chm] := by rw [← hWn]; exact Bx.new _ _ _
            have nt_e : w2.heap.size ≠ w62.heap.size := by have := Blt.lt; omega
            have ns_e : w2.heap.size + 1 ≠ w62.heap.size := by have := Bls.lt; omega
            have nr_e : g ≠ w62.heap.size := by have := Blr.lt; omega
            have sz_e : w.heap.size ≤ w62.heap.size := hs.size
            replace hs := bStep hs hb
            replace Blt := Blt.mono hb
            replace Bls := Bls.mono hb
            replace Blr := Blr.mono hb
            replace ht := ht.mono hb
            replace hz := hz.mono hb
            replace hr := hr.mono hb
            replace hm := hm.mono hb
            replace Oout := Oout.mono (C2.kept RC.kept) hb
            replace ct_0 := cellK ct_0 hb
            replace ct_1 := cellK ct_1 hb
            replace ct_2 := cellK ct_2 hb
            replace cs_0 := cellK cs_0 hb
            replace cs_1 := cellK cs_1 hb
            replace cs_2 := cellK cs_2 hb
            replace cr_0 := cellK cr_0 hb
            replace cr_1 := cellK cr_1 hb
            replace cr_2 := cellK cr_2 hb
            clear hb hWn
            refine hK.out _ _ ⟨ct_0, ct_1, ct_2, cs_0, cs_1, cs_2, cr_0, cr_1, cr_2⟩ (fun hH => ?_)
            clear hK K
            try simp only [Act.put, List.setIfInBounds_toArray, List.set_cons_zero, List.set_cons_succ]
            clear hH
            refine U_one (i := 7) (by kernel_rfl) rfl (fun K hK => ?_)
            obtain ⟨css, ho1, ho2, ho3, hown0⟩ := Oout
            simp only [List.getElem_toArray, List.getElem_cons_succ, List.getElem_cons_zero]
            rw [if_pos (by rfl)]
            refine wp_append_lies _ _ _ _ (by rfl) w.heap.size 47 i0 _ 6 112 Tryz.underlying33 hi hz0 hz1 hz2 (by rfl) (by omega) _ _ css.flatten (by rfl) hown0 ⟨w62.heap.size, 0, none⟩ 1 1 [.bool sht, .slice aht nht cht, .slice Aht Nht Cht, .bool shm, .slice ahm nhm chm, .slice Ahm Nhm Chm] (by rfl) (by rfl) Ble.news ?_ (by omega) ?_ ?_ ?_ _ rfl ?_
            · intro u hu; simp only [List.mem_cons, List.mem_nil_iff, or_false] at hu; rcases hu with rfl | rfl | rfl | rfl | rfl | rfl <;> rfl
            · unfold maxLen; (have := echoQ_length l k; omega)
            · (have := echoQ_length l k; omega)
            · exact hs.size
            intro gout capout w64 hown1 hgrow hat hlt
            have hk := KeepD.owns hown0 hgrow (by decide)
            have ho := owns_onlyT hown0 hgrow
            replace hs := hs.grown hgrow hs.size (fun k hk => (hown0.lt k hk).1)
            replace Oout := OwnR.push (C2.kept RC.kept) ho1 ho2 ho3 (x := (tmQ l (k + 1), lfQ l k * rfQ l k)) rfl ⟨[_, _, _], [_, _, _], rfl, ⟨_, _, _, rfl, ht⟩, ⟨_, _, _, rfl, hm⟩⟩ hown1 hk
            replace Blt := Blt.only ho (by decide)
            replace Bls := Bls.only ho (by decide)
            replace Blr := Blr.only ho (by decide)
            replace ht := ht.keep hk
            replace hz := hz.keep hk
            replace hr := hr.keep hk
            replace hm := hm.keep hk
            replace ct_0 := Blt.at 0 rfl
            replace ct_1 := Blt.at 1 rfl
            replace ct_2 := Blt.at 2 rfl
            replace cs_0 := Bls.at 0 rfl
            replace cs_1 := Bls.at 1 rfl
            replace cs_2 := Bls.at 2 rfl
            replace cr_0 := Blr.at 0 rfl
            replace cr_1 := Blr.at 1 rfl
            replace cr_2 := Blr.at 2 rfl
            clear hk ho ho1 ho2 ho3 hown0 hown1 hgrow Ble
            refine hK.out _ _ ⟨ct_0, ct_1, ct_2, cs_0, cs_1, cs_2, cr_0, cr_1, cr_2⟩ (fun hH => ?_)
            clear hK K
            try simp only [Act.put, List.setIfInBounds_toArray, List.set_cons_zero, List.set_cons_succ]
            clear hH
            refine U_last (by kernel_rfl) rfl (by kernel_rfl) (fun K hK => ?_)
            go_simp
            refine hK.out _ _ ?_
            clear hK K
            intro wl hW
            rw [hW]
            clear hW wl
            try simp only [Act.put, List.setIfInBounds_toArray, List.set_cons_zero, List.set_cons_succ]
            clear ct_0 ct_1 ct_2 cs_0 cs_1 cs_2 cr_0 cr_1 cr_2
            go_wp2
            refine U_region (S := fun w' => w'.cell? ⟨w2.heap.size + 1, 0, none⟩ = some (.bool shz) ∧ w'.cell? ⟨w2.heap.size + 1, 1, none⟩ = some (.slice ahz nhz chz) ∧ w'.cell? ⟨w2.heap.size + 1, 2, none⟩ = some (.slice Ahz Nhz Chz) ∧ w'.cell? ⟨g, 0, none⟩ = some (.bool shr) ∧ w'.cell? ⟨g, 1, none⟩ = some (.slice ahr nhr chr) ∧ w'.cell? ⟨g, 2, none⟩ = some (.slice Ahr Nhr Chr)) (by kernel_rfl) 7 ?_
            refine AnyU.abs ?_
            intro w65 hW
            have hb : Below w64.heap.size w64 w65 := by rw [hW]; exact bDrew _
            replace hs := bStep hs hb
            replace Blt := Blt.mono hb
            replace Bls := Bls.mono hb
            replace Blr := Blr.mono hb
            replace ht := ht.mono hb
            replace hz := hz.mono hb
            replace hr := hr.mono hb
            replace hm := hm.mono hb
            replace Oout := Oout.mono (C2.kept RC.kept) hb
            clear hb hW
            have cs_0 : w65.cell? ⟨w2.heap.size + 1, 0, none⟩ = some (.bool shz) := Bls.at 0 rfl
            have cs_1 : w65.cell? ⟨w2.heap.size + 1, 1, none⟩ = some (.slice ahz nhz chz) := Bls.at 1 rfl
            have cs_2 : w65.cell? ⟨w2.heap.size + 1, 2, none⟩ = some (.slice Ahz Nhz Chz) := Bls.at 2 rfl
            have cr_0 : w65.cell? ⟨g, 0, none⟩ = some (.bool shr) := Blr.at 0 rfl
            have cr_1 : w65.cell? ⟨g, 1, none⟩ = some (.slice ahr nhr chr) := Blr.at 1 rfl
            have cr_2 : w65.cell? ⟨g, 2, none⟩ = some (.slice Ahr Nhr Chr) := Blr.at 2 rfl
            have hH := (show w65.cell? ⟨w2.heap.size + 1, 0, none⟩ = some (.bool shz) ∧ w65.cell? ⟨w2.heap.size + 1, 1, none⟩ = some (.slice ahz nhz chz) ∧ w65.cell? ⟨w2.heap.size + 1, 2, none⟩ = some (.slice Ahz Nhz Chz) ∧ w65.cell? ⟨g, 0, none⟩ = some (.bool shr) ∧ w65.cell? ⟨g, 1, none⟩ = some (.slice ahr nhr chr) ∧ w65.cell? ⟨g, 2, none⟩ = some (.slice Ahr Nhr Chr) from ⟨cs_0, cs_1, cs_2, cr_0, cr_1, cr_2⟩)
            refine U_take (i := 0) (v := ?_) rfl (by kernel_rfl) (by kernel_rfl) (by kernel_rfl) (by kernel_rfl) (fun _ _ _ h => h) (Or.inl ⟨by rfl, ?_⟩) hH ?_
            rotate_left
            · intro w hSw
              try dsimp only at hSw
              go_simp
              try with_reducible rfl
            try simp only [Act.put, List.setIfInBounds_toArray, List.set_cons_zero, List.set_cons_succ]
            refine U_take (i := 2) (v := ?_) rfl (by kernel_rfl) (by kernel_rfl) (by kernel_rfl) (by kernel_rfl) (fun _ _ _ h => h) (Or.inl ⟨by rfl, ?_⟩) hH ?_
            rotate_left
            · intro w hSw
              try dsimp only at hSw
              go_simp
              try with_reducible rfl
            try simp only [Act.put, List.setIfInBounds_toArray, List.set_cons_zero, List.set_cons_succ]
            refine U_take (i := 3) (v := ?_) rfl (by kernel_rfl) (by kernel_rfl) (by kernel_rfl) (by kernel_rfl) (fun _ _ _ h => h) (Or.inl ⟨by rfl, ?_⟩) hH ?_
            rotate_left
            · intro w hSw
              try dsimp only at hSw
              go_simp
              try with_reducible rfl
            try simp only [Act.put, List.setIfInBounds_toArray, List.set_cons_zero, List.set_cons_succ]
            clear hH
            refine U_one (i := 1) (by kernel_rfl) rfl (fun K hK => ?_)
            go_simp
            (with_reducible refine (r7_one _).mono ?_)
            rintro e w66 ⟨_, rfl, hun, hb⟩
            obtain ⟨shun, ahun, nhun, chun, Ahun, Nhun, Chun, rfl⟩ := hun.shape
            replace hs := bStep hs hb
            replace Blt := Blt.mono hb
            replace Bls := Bls.mono hb
            replace Blr := Blr.mono hb
            replace ht := ht.mono hb
            replace hz := hz.mono hb
            replace hr := hr.mono hb
            replace hm := hm.mono hb
            replace Oout := Oout.mono (C2.kept RC.kept) hb
            replace cs_0 := cellK cs_0 hb
            replace cs_1 := cellK cs_1 hb
            replace cs_2 := cellK cs_2 hb
            replace cr_0 := cellK cr_0 hb
            replace cr_1 := cellK cr_1 hb
            replace cr_2 := cellK cr_2 hb
            clear hb
            try go_wp2_with fail
            refine hK.out _ _ ⟨cs_0, cs_1, cs_2, cr_0, cr_1, cr_2⟩ (fun hH => ?_)
            clear hK K
            try simp only [Act.put, List.setIfInBounds_toArray, List.set_cons_zero, List.set_cons_succ]
            clear hH
            refine U_one (i := 4) (by kernel_rfl) rfl (fun K hK => ?_)
            go_simp
            (with_reducible refine (rMul hr hr e1 e1).mono ?_)
            rintro e w67 ⟨_, rfl, hrr, hb⟩
            obtain ⟨shrr, ahrr, nhrr, chrr, Ahrr, Nhrr, Chrr, rfl⟩ := hrr.shape
            replace hs := bStep hs hb
            replace Blt := Blt.mono hb
            replace Bls := Bls.mono hb
            replace Blr := Blr.mono hb
            replace ht := ht.mono hb
            replace hz := hz.mono hb
            replace hr := hr.mono hb
            replace hm := hm.mono hb
            replace hun := hun.mono hb
            replace Oout := Oout.mono (C2.kept RC.kept) hb
            replace cs_0 := cellK cs_0 hb
            replace cs_1 := cellK cs_1 hb
            replace cs_2 := cellK cs_2 hb
            replace cr_0 := cellK cr_0 hb
            replace cr_1 := cellK cr_1 hb
            replace cr_2 := cellK cr_2 hb
            clear hb
            try go_wp2_with fail
            refine hK.out _ _ ⟨cs_0, cs_1, cs_2, cr_0, cr_1, cr_2⟩ (fun hH => ?_)
            clear hK K
            try simp only [Act.put, List.setIfInBounds_toArray, List.set_cons_zero, List.set_cons_succ]
            clear hH
            refine U_one (i := 5) (by kernel_rfl) rfl (fun K hK => ?_)
            go_simp
            (with_reducible refine (rSub hun hrr szQ_one.fit e3).mono ?_)
            rintro e w68 ⟨_, rfl, hd, hb⟩
            obtain ⟨shd, ahd, nhd, chd, Ahd, Nhd, Chd, rfl⟩ := hd.shape
            replace hs := bStep hs hb
            replace Blt := Blt.mono hb
            replace Bls := Bls.mono hb
            replace Blr := Blr.mono hb
            replace ht := ht.mono hb
            replace hz := hz.mono hb
            replace hr := hr.mono hb
            replace hm := hm.mono hb
            replace hun := hun.mono hb
            replace hrr := hrr.mono hb
            replace Oout := Oout.mono (C2.kept RC.kept) hb
            replace cs_0 := cellK cs_0 hb
            replace cs_1 := cellK cs_1 hb
            replace cs_2 := cellK cs_2 hb
            replace cr_0 := cellK cr_0 hb
            replace cr_1 := cellK cr_1 hb
            replace cr_2 := cellK cr_2 hb
            clear hb
            try go_wp2_with fail
            refine hK.out _ _ ⟨cs_0, cs_1, cs_2, cr_0, cr_1, cr_2⟩ (fun hH => ?_)
            clear hK K
            try simp only [Act.put, List.setIfInBounds_toArray, List.set_cons_zero, List.set_cons_succ]
            clear hH
            refine U_one (i := 6) (by kernel_rfl) rfl (fun K hK => ?_)
            go_simp
            (with_reducible refine (rMul hz hd e2 e4).mono ?_)
            rintro e w69 ⟨_, rfl, hl2, hb⟩
            obtain ⟨shl2, ahl2, nhl2, chl2, Ahl2, Nhl2, Chl2, rfl⟩ := hl2.shape
            replace hs := bStep hs hb
            replace Blt := Blt.mono hb
            replace Bls := Bls.mono hb
            replace Blr := Blr.mono hb
            replace ht := ht.mono hb
            replace hz := hz.mono hb
            replace hr := hr.mono hb
            replace hm := hm.mono hb
            replace hun := hun.mono hb
            replace hrr := hrr.mono hb
            replace hd := hd.mono hb
            replace Oout := Oout.mono (C2.kept RC.kept) hb
            replace cs_0 := cellK cs_0 hb
            replace cs_1 := cellK cs_1 hb
            replace cs_2 := cellK cs_2 hb
            replace cr_0 := cellK cr_0 hb
            replace cr_1 := cellK cr_1 hb
            replace cr_2 := cellK cr_2 hb
            clear hb
            try go_wp2_with fail
            refine hK.out _ _ ⟨cs_0, cs_1, cs_2, cr_0, cr_1, cr_2⟩ (fun hH => ?_)
            clear hK K
            try simp only [Act.put, List.setIfInBounds_toArray, List.set_cons_zero, List.set_cons_succ]
            clear hH
            have cs_0 : w69.cell? ⟨w2.heap.size + 1, 0, none⟩ = some (.bool shz) := Bls.at 0 rfl
            have cs_1 : w69.cell? ⟨w2.heap.size + 1, 1, none⟩ = some (.slice ahz nhz chz) := Bls.at 1 rfl
            have cs_2 : w69.cell? ⟨w2.heap.size + 1, 2, none⟩ = some (.slice Ahz Nhz Chz) := Bls.at 2 rfl
            have fs := Bls.free
            have Ls : w2.heap.size + 1 < w69.heap.size := Bls.lt
            refine U_last (by kernel_rfl) rfl (by kernel_rfl) (fun K hK => ?_)
            go_simp
            refine hK.out _ _ ?_
            clear hK K
            intro w70 hW
            have hsz := hs.size
            have lt := Blt.lt
            have ls := Bls.lt
            have lr := Blr.lt
            have hbw : Below w.heap.size w69 w70 := by rw [hW]; exact (Below.setCell (Below.setCell (Below.setCell (Below.refl w.heap.size w69) (by first | exact Nat.le_refl _ | omega | (have := hs.size; simp; done) | (have := hs.size; simp; omega)) _) (by first | exact Nat.le_refl _ | omega | (have := hs.size; simp; done) | (have := hs.size; simp; omega)) _) (by first | exact Nat.le_refl _ | omega | (have := hs.size; simp; done) | (have := hs.size; simp; omega)) _)
            have hs1 : Below w.heap.size w w70 := hs.trans hbw
            have hk : KeepD w69 w70 := by rw [hW]; exact (KeepD.set (KeepD.set (KeepD.set (KeepD.refl _) Bls.ty (by decide) _ _) (TyB.store Bls.ty _ _) (by decide) _ _) (TyB.store (TyB.store Bls.ty _ _) _ _) (by decide) _ _)
            have ho : OnlyT 45 w69 w70 := by rw [hW]; exact (OnlyT.set (OnlyT.set (OnlyT.set (OnlyT.refl _ _) Bls.ty _ _) (TyB.store Bls.ty _ _) _ _) (TyB.store (TyB.store Bls.ty _ _) _ _) _ _)
            have Bl1t : Bx w70 (w2.heap.size) 45 #[.bool sht, .slice aht nht cht, .slice Aht Nht Cht] := by rw [hW]; exact (Bx.far (Bx.far (Bx.far Blt (by first | omega | (simp; done) | (simp; omega)) _) (by first | omega | (simp; done) | (simp; omega)) _) (by first | omega | (simp; done) | (simp; omega)) _)
            have Bl1s : Bx w70 (w2.heap.size + 1) 45 #[.bool shl2, .slice ahl2 nhl2 chl2, .slice Ahl2 Nhl2 Chl2] := by rw [hW]; exact (Bx.set (Bx.set (Bx.set Bls 0 _ rfl) 1 _ rfl) 2 _ rfl)
            have Bl1r : Bx w70 (g) 45 #[.bool shr, .slice ahr nhr chr, .slice Ahr Nhr Chr] := by rw [hW]; exact (Bx.far (Bx.far (Bx.far Blr (by first | omega | (simp; done) | (simp; omega)) _) (by first | omega | (simp; done) | (simp; omega)) _) (by first | omega | (simp; done) | (simp; omega)) _)
            replace hs := hs1
            clear hs1
            replace Blt := Bl1t
            clear Bl1t
            replace Bls := Bl1s
            clear Bl1s
            replace Blr := Bl1r
            clear Bl1r
            replace ht := ht.keep hk
            replace hz := hz.keep hk
            replace hr := hr.keep hk
            replace hm := hm.keep hk
            replace hun := hun.keep hk
            replace hrr := hrr.keep hk
            replace hd := hd.keep hk
            replace hl2 := hl2.keep hk
            replace Oout := Oout.onlyT (C2.kept RC.kept) ho (by decide) (by decide)
            clear ho
            clear hW hk hsz hbw lt ls lr
            try simp only [Act.put, List.setIfInBounds_toArray, List.set_cons_zero, List.set_cons_succ]
            clear cs_0 cs_1 cs_2 cr_0 cr_1 cr_2
            go_wp2
            refine ⟨⟨k + 1, by omega, by go_num, hs, ⟨_, _, _, _, _, _, _, Blt, ht⟩, ⟨_, _, _, _, _, _, _, Bls, hl2⟩, by rw [echoQ_succ]; exact Oout⟩, by simp [intOf]; omega⟩
        · obtain rfl : k = l.length - 1 := by omega
          have Orows := Lib.hid Oout.rows
          clear ht hz Oout
          go_wp2
          go_ret2
          exact ⟨_, _, rfl, Orows.out, rfl, hs⟩
end Go.Proofs.YtlfnapfnpkhggaaGreat
