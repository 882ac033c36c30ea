/-
  The contract of the reference's Echoes.
-/
import Derived.Test.YtlfnapfnpkhggaaGreatPkScan
import Derived.Test.YtlfnapfnpkhggaaGreatPkOps
import Derived.Test.YtlfnapfnpkhggaaGreatPkHeld
set_option linter.unusedSimpArgs false
set_option linter.unusedVariables false
namespace Go.Proofs.YtlfnapfnpkhggaaGreat
open Go.RowKit Dg
attribute [local go_sem ↓] Go.wp_at_zero Go.wp_at_succ

theorem echoR_info : (Tryz.prog.info? 47).map (fun i => (i.zero, i.size, i.bytes)) = some (some (.agg #[.bool false, .slice none 0 0, .slice none 0 0, .bool false, .slice none 0 0, .slice none 0 0]), 6, 112) := by kernel_rfl

set_option maxRecDepth 100000 in
set_option maxHeartbeats 4000000 in
theorem r7_Echoes_size (v : Value) (l : List Lay) (w : World) (hl : Rows 9 156 (C3 RC) w v l) (h : l.length < 2 ∨ 12 < l.length) : Calls Tryz.prog 15 #[v] w (RetV w (.tuple #[.slice none 0 0, .int .i64 4])) := by
  obtain ⟨ao, cap, rfl, hc1, hc2, hc3⟩ := hl.slice
  clear hl
  rcases h with h | h
  · go_enter Tryz.func15, Tryz.ntmps15
    go_wp2
    go_ret2
    exact ⟨rfl, Below.refl _ _⟩
  · have h2 : ¬ l.length < 2 := by omega
    go_enter Tryz.func15, Tryz.ntmps15
    go_wp2
    go_ret2
    exact ⟨rfl, Below.refl _ _⟩

theorem layPos_take (l : List Lay) (k : Nat) (x : Lay) (h : l[k]? = some x) (ht : (l.take k).all layPos = true) : (l.take (k + 1)).all layPos = layPos x := by
  have hk : k < l.length := (List.getElem?_eq_some_iff.1 h).1
  have hx : l[k] = x := (List.getElem?_eq_some_iff.1 h).2
  rw [List.take_succ_eq_append_getElem hk, List.all_append, ht, hx]
  simp
theorem layPos_false (l : List Lay) (k : Nat) (h : (l.take k).all layPos = false) : l.all layPos = false := by
  rw [List.all_eq_false] at *
  obtain ⟨x, hx, h⟩ := h
  exact ⟨x, List.mem_of_mem_take hx, h⟩
/-- The nine cells of a layer's three fractions. -/
theorem C3.open_ {w : World} {cs : List Value} {x : Lay} (h : C3 RC w cs x) : ∃ g1 a1 n1 c1 A1 N1 D1 g2 a2 n2 c2 A2 N2 D2 g3 a3 n3 c3 A3 N3 D3,
    cs = [.bool g1, .slice a1 n1 c1, .slice A1 N1 D1, .bool g2, .slice a2 n2 c2, .slice A2 N2 D2, .bool g3, .slice a3 n3 c3, .slice A3 N3 D3] ∧
    RV w (.agg #[.bool g1, .slice a1 n1 c1, .slice A1 N1 D1]) x.1 ∧ RV w (.agg #[.bool g2, .slice a2 n2 c2, .slice A2 N2 D2]) x.2.1 ∧ RV w (.agg #[.bool g3, .slice a3 n3 c3, .slice A3 N3 D3]) x.2.2 := by
  obtain ⟨_, _, _, rfl, ⟨p1, p2, p3, rfl, h1⟩, ⟨q1, q2, q3, rfl, h2⟩, ⟨r1, r2, r3, rfl, h3⟩⟩ := h
  obtain ⟨g1, a1, n1, c1, A1, N1, D1, e⟩ := h1.shape
  obtain ⟨rfl, rfl, rfl⟩ := agg3 e
  obtain ⟨g2, a2, n2, c2, A2, N2, D2, e⟩ := h2.shape
  obtain ⟨rfl, rfl, rfl⟩ := agg3 e
  obtain ⟨g3, a3, n3, c3, A3, N3, D3, e⟩ := h3.shape
  obtain ⟨rfl, rfl, rfl⟩ := agg3 e
  exact ⟨_, _, _, _, _, _, _, _, _, _, _, _, _, _, _, _, _, _, _, _, _, rfl, h1, h2, h3⟩

set_option maxRecDepth 100000 in
set_option maxHeartbeats 4000000 in
theorem r7_Echoes_pos (v : Value) (l : List Lay) (w : World) (hl : Rows 9 156 (C3 RC) w v l) (h1 : 2 ≤ l.length) (h2 : l.length ≤ 12) (hp : l.all layPos = false) : Calls Tryz.prog 15 #[v] w (RetV w (.tuple #[.slice none 0 0, .int .i64 1])) := by
  obtain ⟨ao, cap, rfl, hc1, hc2, hc3⟩ := hl.slice
  have hs := Below.refl w.heap.size w
  have HL := Lib.hid hl
  have HPF := Lib.hid hp
  clear hl hp
  go_enter Tryz.func15, Tryz.ntmps15
  go_wp2
  go_loopw [4] (fun iv wr => ∃ k : Nat, k ≤ l.length ∧ iv = .int .i64 k ∧ (l.take k).all layPos = true ∧ Below w.heap.size w wr) (fun iv _ => l.length - (intOf iv).toNat)
  case atStart => exact ⟨0, Nat.zero_le _, rfl, rfl, hs⟩
  case round =>
    obtain ⟨k, hk, rfl, hp, hs⟩ := hrel
    have HP := Lib.hid hp
    clear hp
    by_cases hlt : k < l.length
    · obtain ⟨x, hx⟩ : ∃ x, l[k]? = some x := ⟨_, List.getElem?_eq_getElem hlt⟩
      obtain ⟨bx, ox, dx, csx, hvx, hlenx, hatx, hcx⟩ := (HL.out.mono (C3.kept RC.kept) hs).get hx
      obtain ⟨rfl, rfl⟩ := sliceE hvx
      obtain ⟨gx1, ax1, nx1, cx1, Ax1, Nx1, Dx1, gx2, ax2, nx2, cx2, Ax2, Nx2, Dx2, gx3, ax3, nx3, cx3, Ax3, Nx3, Dx3, rfl, hx1, hx2, hx3⟩ := hcx.open_
      have Ex0 := hatx 0 _ rfl
      have Ex1 := hatx 1 _ rfl
      have Ex2 := hatx 2 _ rfl
      have Ex3 := hatx 3 _ rfl
      have Ex4 := hatx 4 _ rfl
      have Ex5 := hatx 5 _ rfl
      have Ex6 := hatx 6 _ rfl
      have Ex7 := hatx 7 _ rfl
      have Ex8 := hatx 8 _ rfl
      simp only [Nat.add_zero] at Ex0
      clear hatx hcx hlenx
      have HT := Lib.hid (layPos_take l k x hx HP.out)
      have hsg := sgQ_le x.1
      generalize hS1 : sgQ x.1 = s1 at *
      have HS1 := Lib.hid hS1
      have HG1 := Lib.hid hsg
      clear hS1 hsg
      have hsg := sgQ_le x.2.1
      generalize hS2 : sgQ x.2.1 = s2 at *
      have HS2 := Lib.hid hS2
      have HG2 := Lib.hid hsg
      clear hS2 hsg
      have hsg := sgQ_le x.2.2
      generalize hS3 : sgQ x.2.2 = s3 at *
      have HS3 := Lib.hid hS3
      have HG3 := Lib.hid hsg
      clear hS3 hsg
      clear hx
      go_wp2_with fail
      refine (rSign hx1).mono ?_
      rintro e w1 ⟨rfl, hb⟩
      replace hs := bStep hs hb
      replace hx1 := hx1.mono hb
      replace hx2 := hx2.mono hb
      replace hx3 := hx3.mono hb
      replace Ex0 := cellK Ex0 hb
      replace Ex1 := cellK Ex1 hb
      replace Ex2 := cellK Ex2 hb
      replace Ex3 := cellK Ex3 hb
      replace Ex4 := cellK Ex4 hb
      replace Ex5 := cellK Ex5 hb
      replace Ex6 := cellK Ex6 hb
      replace Ex7 := cellK Ex7 hb
      replace Ex8 := cellK Ex8 hb
      clear hb
      rw [HS1.out]
      by_cases hq1 : 0 < x.1
      · have hn1 : ¬ s1 ≤ 0 := fun h => HG1.out.1 h hq1
        go_wp2_with fail
        refine (rSign hx2).mono ?_
        rintro e w2 ⟨rfl, hb⟩
        replace hs := bStep hs hb
        replace hx1 := hx1.mono hb
        replace hx2 := hx2.mono hb
        replace hx3 := hx3.mono hb
        replace Ex0 := cellK Ex0 hb
        replace Ex1 := cellK Ex1 hb
        replace Ex2 := cellK Ex2 hb
        replace Ex3 := cellK Ex3 hb
        replace Ex4 := cellK Ex4 hb
        replace Ex5 := cellK Ex5 hb
        replace Ex6 := cellK Ex6 hb
        replace Ex7 := cellK Ex7 hb
        replace Ex8 := cellK Ex8 hb
        clear hb
        rw [HS2.out]
        by_cases hq2 : 0 < x.2.1
        · have hn2 : ¬ s2 ≤ 0 := fun h => HG2.out.1 h hq2
          go_wp2_with fail
          refine (rSign hx3).mono ?_
          rintro e w3 ⟨rfl, hb⟩
          replace hs := bStep hs hb
          replace hx1 := hx1.mono hb
          replace hx2 := hx2.mono hb
          replace hx3 := hx3.mono hb
          replace Ex0 := cellK Ex0 hb
          replace Ex1 := cellK Ex1 hb
          replace Ex2 := cellK Ex2 hb
          replace Ex3 := cellK Ex3 hb
          replace Ex4 := cellK Ex4 hb
          replace Ex5 := cellK Ex5 hb
          replace Ex6 := cellK Ex6 hb
          replace Ex7 := cellK Ex7 hb
          replace Ex8 := cellK Ex8 hb
          clear hb
          rw [HS3.out]
          by_cases hq3 : 0 < x.2.2
          · have hn3 : ¬ s3 ≤ 0 := fun h => HG3.out.1 h hq3
            have HF := Lib.hid (show (l.take (k + 1)).all layPos = true by rw [HT.out]; unfold layPos; rw [decide_eq_true hq1, decide_eq_true hq2, decide_eq_true hq3]; rfl)
            go_wp2
            go_roundw
            case rel => exact ⟨k + 1, by omega, by go_num, HF.out, hs⟩
            all_goals first | (simp [intOf]; done) | (simp [intOf]; omega)
          · have hn : s3 ≤ 0 := HG3.out.2 hq3
            have HF := HT.out
            clear HT HG1 HG2 HG3
            go_wp2
            go_ret2
            exact ⟨rfl, hs⟩
        · have hn : s2 ≤ 0 := HG2.out.2 hq2
          have HF := HT.out
          clear HT HG1 HG2 HG3
          go_wp2
          go_ret2
          exact ⟨rfl, hs⟩
      · have hn : s1 ≤ 0 := HG1.out.2 hq1
        have HF := HT.out
        clear HT HG1 HG2 HG3
        go_wp2
        go_ret2
        exact ⟨rfl, hs⟩
    · have hp := HP.out
      rw [List.take_of_length_le (by omega), HPF.out] at hp
      cases hp
end Go.Proofs.YtlfnapfnpkhggaaGreat
