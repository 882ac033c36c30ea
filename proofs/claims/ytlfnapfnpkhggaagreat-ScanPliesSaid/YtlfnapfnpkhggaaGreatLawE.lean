/-
  Law 07: ScanEchoes, its sample apart: the echoes of light layers, of the program and of the reference.
-/
import Derived.Test.YtlfnapfnpkhggaaGreatLawD
import Derived.Test.YtlfnapfnpkhggaaGreatEcho2
import Derived.Test.YtlfnapfnpkhggaaGreatRef7Echo2
set_option linter.unusedSimpArgs false
set_option linter.unusedVariables false
namespace Go.Proofs.YtlfnapfnpkhggaaGreat
open Go.RowKit Dg
attribute [local go_sem ↓] Go.wp_at_zero Go.wp_at_succ

/-- The echoes of layers, none where there is an error; the error's number. -/
def resE (l : List Lay) : List (Rat × Rat) := if l.length < 2 ∨ 12 < l.length then [] else if l.all layPos = true then echoQ l (l.length - 1) else []
def resC (l : List Lay) : Int := if l.length < 2 ∨ 12 < l.length then 4 else if l.all layPos = true then 0 else 1
theorem sc_Echoes_all (v : Value) (l : List Lay) (B : Nat) (w : World) (hl : Rows 9 153 (C3 PC) w v l) (hB : B ≤ 1000) (hz : ∀ x ∈ l, LaySz B x) :
    Calls Tryz.prog 14 #[v] w (Ret2 (fun w v => Rows 6 42 (C2 PC) w v (resE l)) (fun _ v => v = .int .i64 (resC l)) w) := by
  by_cases h : l.length < 2 ∨ 12 < l.length
  · rw [show resE l = [] from if_pos h, show resC l = 4 from if_pos h]
    refine (sc_Echoes_size v l w hl h).mono ?_
    rintro e w' ⟨rfl, hb⟩
    exact ⟨_, _, rfl, Rows.nil_ _, rfl, hb⟩
  · by_cases hp : l.all layPos = true
    · rw [show resE l = echoQ l (l.length - 1) by unfold resE; rw [if_neg h, if_pos hp], show resC l = 0 by unfold resC; rw [if_neg h, if_pos hp]]
      exact sc_Echoes_ok v l B w hl (by omega) (by omega) hp hB hz
    · rw [show resE l = [] by unfold resE; rw [if_neg h, if_neg hp], show resC l = 1 by unfold resC; rw [if_neg h, if_neg hp]]
      refine (sc_Echoes_pos v l w hl (by omega) (by omega) (by simpa using hp)).mono ?_
      rintro e w' ⟨rfl, hb⟩
      exact ⟨_, _, rfl, Rows.nil_ _, rfl, hb⟩
theorem r7_Echoes_all (v : Value) (l : List Lay) (B : Nat) (w : World) (hl : Rows 9 156 (C3 RC) w v l) (hB : B ≤ 1000) (hz : ∀ x ∈ l, LaySz B x) :
    Calls Tryz.prog 15 #[v] w (Ret2 (fun w v => Rows 6 47 (C2 RC) w v (resE l)) (fun _ v => v = .int .i64 (resC l)) w) := by
  by_cases h : l.length < 2 ∨ 12 < l.length
  · rw [show resE l = [] from if_pos h, show resC l = 4 from if_pos h]
    refine (r7_Echoes_size v l w hl h).mono ?_
    rintro e w' ⟨rfl, hb⟩
    exact ⟨_, _, rfl, Rows.nil_ _, rfl, hb⟩
  · by_cases hp : l.all layPos = true
    · rw [show resE l = echoQ l (l.length - 1) by unfold resE; rw [if_neg h, if_pos hp], show resC l = 0 by unfold resC; rw [if_neg h, if_pos hp]]
      exact r7_Echoes_ok v l B w hl (by omega) (by omega) hp hB hz
    · rw [show resE l = [] by unfold resE; rw [if_neg h, if_neg hp], show resC l = 1 by unfold resC; rw [if_neg h, if_neg hp]]
      refine (r7_Echoes_pos v l w hl (by omega) (by omega) (by simpa using hp)).mono ?_
      rintro e w' ⟨rfl, hb⟩
      exact ⟨_, _, rfl, Rows.nil_ _, rfl, hb⟩
theorem resE_fit (l : List Lay) (B : Nat) (hB : B ≤ 1000) (hz : ∀ x ∈ l, LaySz B x) : ∀ x ∈ resE l, Fit x.1 ∧ Fit x.2 := by
  intro x hx
  unfold resE at hx
  split at hx
  · cases hx
  · split at hx
    · rename_i h hp
      obtain ⟨h1, h2⟩ := echo_sz hz (List.all_eq_true.1 hp) hB (by omega) x hx
      exact ⟨h1.fit, h2.fit⟩
    · cases hx
theorem lay_sz (x : DL) (h : lightF x = true) : LaySz 1 (layF x) := by
  obtain ⟨⟨n1, d1⟩, ⟨n2, d2⟩, ⟨n3, d3⟩⟩ := x
  simp only [lightF, shortF, List.all_cons, List.all_nil, Bool.and_true, Bool.and_eq_true, Bool.not_eq_true', Bool.or_eq_false_iff, decide_eq_false_iff_not] at h
  obtain ⟨⟨a1, a2, a3⟩, ⟨b1, b2, b3⟩, ⟨c1, c2, c3⟩⟩ := h
  show SzQ 1 (fracQ n1 d1) ∧ SzQ 1 (fracQ n2 d2) ∧ SzQ 1 (fracQ n3 d3)
  exact ⟨szQ_fracQ (by omega) (by omega), szQ_fracQ (by omega) (by omega), szQ_fracQ (by omega) (by omega)⟩
theorem C2.openP {w : World} {cs : List Value} {x : Rat × Rat} (h : C2 PC w cs x) : ∃ g1 a1 n1 c1 A1 N1 D1 g2 a2 n2 c2 A2 N2 D2,
    cs = [.bool g1, .slice a1 n1 c1, .slice A1 N1 D1, .bool g2, .slice a2 n2 c2, .slice A2 N2 D2] ∧ PV w (.agg #[.bool g1, .slice a1 n1 c1, .slice A1 N1 D1]) x.1 ∧ PV w (.agg #[.bool g2, .slice a2 n2 c2, .slice A2 N2 D2]) x.2 := by
  obtain ⟨_, _, rfl, ⟨p1, p2, p3, rfl, h1⟩, ⟨q1, q2, q3, rfl, h2⟩⟩ := h
  obtain ⟨g1, a1, n1, c1, A1, N1, D1, e⟩ := h1.shape
  obtain ⟨rfl, rfl, rfl⟩ := agg3 e
  obtain ⟨g2, a2, n2, c2, A2, N2, D2, e⟩ := h2.shape
  obtain ⟨rfl, rfl, rfl⟩ := agg3 e
  exact ⟨_, _, _, _, _, _, _, _, _, _, _, _, _, _, rfl, h1, h2⟩
theorem C2.openR {w : World} {cs : List Value} {x : Rat × Rat} (h : C2 RC w cs x) : ∃ g1 a1 n1 c1 A1 N1 D1 g2 a2 n2 c2 A2 N2 D2,
    cs = [.bool g1, .slice a1 n1 c1, .slice A1 N1 D1, .bool g2, .slice a2 n2 c2, .slice A2 N2 D2] ∧ RV w (.agg #[.bool g1, .slice a1 n1 c1, .slice A1 N1 D1]) x.1 ∧ RV w (.agg #[.bool g2, .slice a2 n2 c2, .slice A2 N2 D2]) x.2 := by
  obtain ⟨_, _, rfl, ⟨p1, p2, p3, rfl, h1⟩, ⟨q1, q2, q3, rfl, h2⟩⟩ := h
  obtain ⟨g1, a1, n1, c1, A1, N1, D1, e⟩ := h1.shape
  obtain ⟨rfl, rfl, rfl⟩ := agg3 e
  obtain ⟨g2, a2, n2, c2, A2, N2, D2, e⟩ := h2.shape
  obtain ⟨rfl, rfl, rfl⟩ := agg3 e
  exact ⟨_, _, _, _, _, _, _, _, _, _, _, _, _, _, rfl, h1, h2⟩

set_option maxRecDepth 100000 in
set_option maxHeartbeats 16000000 in
theorem l7_ScanEchoes_of (hAw : ∀ w : World, Calls Tryz.prog 12 #[] w (RetV w (.bool true))) (v : Value) (l : List DL) (w : World) (hl : RowsI 6 DC w v l) (hok : ∀ x ∈ l, DOk x.1 ∧ DOk x.2.1 ∧ DOk x.2.2) :
    Calls Tryz.prog 3 #[v] w (RetV w (.bool true)) := by
  obtain ⟨ao, cap, rfl, hc1, hc2, hc3⟩ := hl.slice
  have hs := Below.refl w.heap.size w
  have HL := Lib.hid hl
  have HOK := Lib.hid hok
  have HAW := Lib.hid hAw
  clear hl hok hAw
  go_enter Tryz.func3, Tryz.ntmps3
  go_wp2_with fail
  refine (l7_light _ l _ HL.out).mono ?_
  rintro e w1 ⟨rfl, hb⟩
  replace hs := bStep hs hb
  clear hb
  generalize hg : lightQ l = lq
  have HG := Lib.hid hg
  clear hg
  cases lq
  · go_wp2_with fail
    refine (HAW.out _).mono ?_
    rintro e w2 ⟨rfl, hb⟩
    replace hs := bStep hs hb
    clear hb
    go_wp2
    go_ret
    exact ⟨rfl, hs⟩
  · have hg := HG.out
    unfold lightQ at hg
    simp only [Bool.and_eq_true, Bool.or_eq_true, decide_eq_true_eq] at hg
    obtain ⟨hall, hlen⟩ := hg
    have h20 : l.length ≤ 20 := by omega
    have hz : ∀ x ∈ l.map layF, LaySz 1 x := by
      intro x hx
      obtain ⟨y, hy, rfl⟩ := List.mem_map.1 hx
      exact lay_sz y (List.all_eq_true.1 hall y hy)
    have HZ := Lib.hid hz
    have HFIT := Lib.hid (resE_fit _ 1 (by omega) hz)
    clear hall hlen hz
    go_wp2_with fail
    refine (l7_layers _ l _ (HL.out.mono DC.kept hs) h20 HOK.out).mono ?_
    rintro e w2 ⟨va, vb, rfl, hra, hrb, hb⟩
    replace hs := bStep hs hb
    clear hb
    generalize l.map layF = L at *
    go_wp2_with fail
    refine (sc_Echoes_all _ L 1 _ hra (by omega) HZ.out).mono ?_
    rintro e w10 ⟨vx, _, rfl, hrx, rfl, hb⟩
    replace hs := bStep hs hb
    replace hrb := hrb.mono (C3.kept RC.kept) hb
    clear hb
    obtain ⟨ax, kx, rfl, hx1, hx2, hx3⟩ := hrx.slice
    go_wp2_with fail
    refine (r7_Echoes_all _ L 1 _ hrb (by omega) HZ.out).mono ?_
    rintro e w11 ⟨vy, _, rfl, hry, rfl, hb⟩
    replace hs := bStep hs hb
    replace hrx := hrx.mono (C2.kept PC.kept) hb
    clear hb hra hrb
    obtain ⟨ay, ky, rfl, hy1, hy2, hy3⟩ := hry.slice
    have HX := Lib.hid hrx
    have HY := Lib.hid hry
    clear hrx hry
    generalize resC L = rc
    generalize resE L = E at *
    have HS0 := hs
    go_wp2
    go_loopw [41] (fun iv wq => ∃ k : Nat, k ≤ E.length ∧ iv = .int .i64 k ∧ Below w11.heap.size w11 wq) (fun iv _ => E.length - (intOf iv).toNat)
    case atStart => exact ⟨0, Nat.zero_le _, rfl, Below.refl _ _⟩
    case round =>
      obtain ⟨k, hk, rfl, hs1⟩ := hrel
      clear hs
      by_cases hlt : k < E.length
      · obtain ⟨⟨p, q⟩, hxx⟩ : ∃ x, E[k]? = some x := ⟨_, List.getElem?_eq_getElem hlt⟩
        obtain ⟨bx, ox, dx, csx, hvx, hlenx, hatx, hcx⟩ := (HX.out.mono (C2.kept PC.kept) hs1).get hxx
        obtain ⟨rfl, rfl⟩ := sliceE hvx
        obtain ⟨gx1, ax1, nx1, cx1, Ax1, Nx1, Dx1, gx2, ax2, nx2, cx2, Ax2, Nx2, Dx2, rfl, hp1, hp2⟩ := hcx.openP
        obtain ⟨bby, oy, dy, csy, hvy, hleny, haty, hcy⟩ := (HY.out.mono (C2.kept RC.kept) hs1).get hxx
        obtain ⟨rfl, rfl⟩ := sliceE hvy
        obtain ⟨gy1, ay1, ny1, cy1, Ay1, Ny1, Dy1, gy2, ay2, ny2, cy2, Ay2, Ny2, Dy2, rfl, hr1, hr2⟩ := hcy.openR
        have Ex0 := hatx 0 _ rfl
        have Ex1 := hatx 1 _ rfl
        have Ex2 := hatx 2 _ rfl
        have Ex3 := hatx 3 _ rfl
        have Ex4 := hatx 4 _ rfl
        have Ex5 := hatx 5 _ rfl
        have Ey0 := haty 0 _ rfl
        have Ey1 := haty 1 _ rfl
        have Ey2 := haty 2 _ rfl
        have Ey3 := haty 3 _ rfl
        have Ey4 := haty 4 _ rfl
        have Ey5 := haty 5 _ rfl
        simp only [Nat.add_zero] at Ex0 Ey0
        obtain ⟨fp, fq⟩ := HFIT.out _ (List.mem_of_getElem? hxx)
        have hs := hs1
        clear hatx haty hcx hcy hlenx hleny hvx hvy hxx hs1
        dsimp only at hp1 hp2 hr1 hr2 fp fq
        have bk1 : (0 : Int) ≤ (k : Int) := by omega
        have bk2 : (k : Int) < (E.length : Int) := by omega
        go_upto_region 11 with fail
        have hb := bDrew wr
        replace hs := bStep hs hb
        replace hp1 := hp1.mono hb
        replace hp2 := hp2.mono hb
        replace hr1 := hr1.mono hb
        replace hr2 := hr2.mono hb
        replace Ex0 := cellK Ex0 hb
        replace Ex1 := cellK Ex1 hb
        replace Ex2 := cellK Ex2 hb
        replace Ex3 := cellK Ex3 hb
        replace Ex4 := cellK Ex4 hb
        replace Ex5 := cellK Ex5 hb
        replace Ey0 := cellK Ey0 hb
        replace Ey1 := cellK Ey1 hb
        replace Ey2 := cellK Ey2 hb
        replace Ey3 := cellK Ey3 hb
        replace Ey4 := cellK Ey4 hb
        replace Ey5 := cellK Ey5 hb
        clear hb
        go_region_held3 (fun w' => w'.cell? ⟨bx, ox + k * 6, none⟩ = some (.bool gx1) ∧ w'.cell? ⟨bx, ox + k * 6 + 1, none⟩ = some (.slice ax1 nx1 cx1) ∧ w'.cell? ⟨bx, ox + k * 6 + 2, none⟩ = some (.slice Ax1 Nx1 Dx1) ∧ w'.cell? ⟨bx, ox + k * 6 + 3, none⟩ = some (.bool gx2) ∧ w'.cell? ⟨bx, ox + k * 6 + 4, none⟩ = some (.slice ax2 nx2 cx2) ∧ w'.cell? ⟨bx, ox + k * 6 + 5, none⟩ = some (.slice Ax2 Nx2 Dx2) ∧ w'.cell? ⟨bby, oy + k * 6, none⟩ = some (.bool gy1) ∧ w'.cell? ⟨bby, oy + k * 6 + 1, none⟩ = some (.slice ay1 ny1 cy1) ∧ w'.cell? ⟨bby, oy + k * 6 + 2, none⟩ = some (.slice Ay1 Ny1 Dy1) ∧ w'.cell? ⟨bby, oy + k * 6 + 3, none⟩ = some (.bool gy2) ∧ w'.cell? ⟨bby, oy + k * 6 + 4, none⟩ = some (.slice ay2 ny2 cy2) ∧ w'.cell? ⟨bby, oy + k * 6 + 5, none⟩ = some (.slice Ay2 Ny2 Dy2))
          (first | exact ⟨Ex0, Ex1, Ex2, Ex3, Ex4, Ex5, Ey0, Ey1, Ey2, Ey3, Ey4, Ey5⟩ | exact ⟨cellA Ex0 _, cellA Ex1 _, cellA Ex2 _, cellA Ex3 _, cellA Ex4 _, cellA Ex5 _, cellA Ey0 _, cellA Ey1 _, cellA Ey2 _, cellA Ey3 _, cellA Ey4 _, cellA Ey5 _⟩ | go_keep)
          (first
            | (go_at_call 16; (with_reducible refine (l7_is _ _ _ _ hp1 hr1 fp).mono ?_); rintro e w1 ⟨rfl, hb⟩; replace hs := bStep hs hb; replace hp1 := hp1.mono hb; replace hp2 := hp2.mono hb; replace hr1 := hr1.mono hb; replace hr2 := hr2.mono hb; replace Ex0 := cellK Ex0 hb; replace Ex1 := cellK Ex1 hb; replace Ex2 := cellK Ex2 hb; replace Ex3 := cellK Ex3 hb; replace Ex4 := cellK Ex4 hb; replace Ex5 := cellK Ex5 hb; replace Ey0 := cellK Ey0 hb; replace Ey1 := cellK Ey1 hb; replace Ey2 := cellK Ey2 hb; replace Ey3 := cellK Ey3 hb; replace Ey4 := cellK Ey4 hb; replace Ey5 := cellK Ey5 hb; clear hb)
            | (go_at_call 16; (with_reducible refine (l7_is _ _ _ _ hp2 hr2 fq).mono ?_); rintro e w2 ⟨rfl, hb⟩; replace hs := bStep hs hb; replace hp1 := hp1.mono hb; replace hp2 := hp2.mono hb; replace hr1 := hr1.mono hb; replace hr2 := hr2.mono hb; replace Ex0 := cellK Ex0 hb; replace Ex1 := cellK Ex1 hb; replace Ex2 := cellK Ex2 hb; replace Ex3 := cellK Ex3 hb; replace Ex4 := cellK Ex4 hb; replace Ex5 := cellK Ex5 hb; replace Ey0 := cellK Ey0 hb; replace Ey1 := cellK Ey1 hb; replace Ey2 := cellK Ey2 hb; replace Ey3 := cellK Ey3 hb; replace Ey4 := cellK Ey4 hb; replace Ey5 := cellK Ey5 hb; clear hb))
        clear Ex0 Ex1 Ex2 Ex3 Ex4 Ex5 Ey0 Ey1 Ey2 Ey3 Ey4 Ey5
        go_wp2
        go_roundw
        case rel => exact ⟨k + 1, by omega, by go_num, hs⟩
        all_goals first | (simp [intOf]; done) | (simp [intOf]; omega)
      · have hs := bStep HS0 hs1
        clear hs1
        go_wp2_with fail
        refine (HAW.out _).mono ?_
        rintro e w1 ⟨rfl, hb⟩
        replace hs := bStep hs hb
        clear hb
        go_wp2
        go_ret
        exact ⟨rfl, hs⟩
end Go.Proofs.YtlfnapfnpkhggaaGreat
