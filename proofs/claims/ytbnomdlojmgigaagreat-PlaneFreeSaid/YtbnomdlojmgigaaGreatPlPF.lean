/-
  The first step of a moving box that runs into an obstacle: the program's words and the reference's.
-/
import Derived.Test.YtbnomdlojmgigaaGreatPkB20F
set_option linter.unusedSimpArgs false
set_option linter.unusedVariables false
set_option maxRecDepth 100000
set_option maxHeartbeats 16000000
namespace Go.Proofs.YtbnomdlojmgigaaGreat
open Go.RowKit Dg
attribute [local go_sem ↓] Go.wp_at_zero Go.wp_at_succ
theorem pl_Sweep (va vo : Value) (path : List Pt) (obs : List Bxx) (u v : Int) (w : World) (hl : Pts w va path) (ho : Bxs w vo obs) {ri rk : Int} (hg : SwO path u v obs ri rk) :
  Calls Tryz.prog 8 #[va, .int .i64 u, .int .i64 v, vo] w (RetV w (.tuple #[.int .i64 ri, .int .i64 rk, .int .i64 (swE path u v obs)])) := by
 obtain ⟨al, cl, rfl, -, -, -⟩ := hl.slice
 obtain ⟨ol, ok, rfl, -, -, -⟩ := ho.slice
 have hs := Below.refl w.heap.size w
 have HL := Lib.hid hl
 have HO := Lib.hid ho
 have HG := Lib.hid hg
 clear hl ho hg
 go_enter Tryz.func8, Tryz.ntmps8
 by_cases q1 : path.length < 2
 ·have q1d : ((path.length : Int) < 2) = True := eq_true (by omega)
  have B0 := Lib.hid (sw_1 HG.out (by omega))
  go_wp2
  go_ret3
  exact ⟨by rw [B0.out.1, B0.out.2.1, B0.out.2.2]; rfl, hs⟩
 have q1d : ((path.length : Int) < 2) = False := eq_false (by omega)
 by_cases q2 : 32 < path.length
 ·have q2d : ((32 : Int) < (path.length : Int)) = True := eq_true (by omega)
  have B0 := Lib.hid (sw_1 HG.out (by omega))
  go_wp2
  go_ret3
  exact ⟨by rw [B0.out.1, B0.out.2.1, B0.out.2.2]; rfl, hs⟩
 have q2d : ((32 : Int) < (path.length : Int)) = False := eq_false (by omega)
 obtain ⟨pb, po, pc, C1, hpc1, hpc2⟩ := rowI_open HL.out (by omega)
 obtain ⟨rfl, rfl⟩ := sliceE C1
 clear C1
 go_wp2
 go_loopw [28] (fun s28 wq => ∃ a : Nat, a ≤ path.length ∧ s28 = .int .i64 a ∧ Below w.heap.size w wq ∧ (∀ j, j < a → rtB (ptZ path j) = true)) (fun s28 _ => path.length - (intOf s28).toNat)
 case atStart => exact ⟨0, Nat.zero_le _, rfl, hs, (fun j h => absurd h (Nat.not_lt_zero j))⟩
 case round =>
  clear hs
  obtain ⟨a, Cd, rfl, hs, HR⟩ := hrel
  obtain ⟨Bw, C2⟩ : ∃ x, x = wr := ⟨_, rfl⟩
  subst C2
  replace HR := Lib.hid HR
  by_cases q3 : a < path.length
  ·have q3d : ((a : Int) < (path.length : Int)) = True := eq_true (by omega)
   obtain ⟨Cb, Cc, le4⟩ := rowIP_at (RowsI.mono IP.kept HL.out hs) (show a < path.length by omega)
   obtain ⟨Bs, Bl⟩ : ∃ z : Pt, z = ptZ path a := ⟨_, rfl⟩
   rw [← Bl] at Cb Cc
   replace Bl := Lib.hid Bl
   go_wp2_with fail
   clear le4 Cb Cc
   refine Calls.abs ?_
   intro Bv hW
   have hG : Gr [] Bw Bv := by rw [hW]; exact (Gr.refl _ _).alloc
   have sz_w21 := hs.size
   have B5 : Bx Bv (Bw.heap.size) 31 #[.int .i64 Bs.1, .int .i64 Bs.2] := by rw [hW]; exact (Bx.new0 _ _ _)
   replace hs := hs.trans (hG.below0 hs.size)
   clear hW hG
   have hz_w21 := B5.lt
   with_reducible refine (pl_right Bs _).mono ?_
   rintro e w22 ⟨rfl, hb⟩
   revert B5; refine mS hs hb ?_; clear hs hb; intro hs B5
   obtain ⟨b5, C0⟩ : ∃ zz : Bool, zz = rtB Bs := ⟨_, rfl⟩
   rw [← C0]
   replace C0 := Lib.hid C0
   by_cases q6 : rtB Bs = true
   ·obtain rfl : b5 = true := by rw [C0.out]; exact q6
    have q6H := Lib.hid q6
    clear q6
    go_wp2
    go_roundw
    case rel => exact ⟨a + 1, by omega, by go_num, hs, (fun j h => (Nat.lt_or_eq_of_le (Nat.le_of_lt_succ h)).elim (fun e => HR.out j e) (fun e => by rw [e, show ptZ path a = Bs from Bl.out.symm]; exact q6H.out))⟩
    all_goals first | (simp [intOf]; done) | (simp [intOf]; omega)
   obtain rfl : b5 = false := by rw [C0.out]; simpa using q6
   have q6H := Lib.hid q6
   clear q6
   have B0 := Lib.hid (sw_2 HG.out (by omega) (a := a) (by omega) (show rtB (ptZ path a) = false from by rw [show ptZ path a = Bs from Bl.out.symm]; exact Bool.eq_false_iff.2 q6H.out))
   go_wp2
   go_ret3
   exact ⟨by rw [B0.out.1, B0.out.2.1, B0.out.2.2]; rfl, hs⟩
  have q3d : ((a : Int) < (path.length : Int)) = False := eq_false (by omega)
  have Bi := Lib.hid (show ∀ j, j < path.length → rtB (ptZ path j) = true from fun j hj => HR.out j (by omega))
  by_cases q4 : u < 1
  ·have q4d : (u < 1) = True := eq_true (by omega)
   have B0 := Lib.hid (sw_3 HG.out (by omega) Bi.out (by omega))
   go_wp2
   go_ret3
   exact ⟨by rw [B0.out.1, B0.out.2.1, B0.out.2.2]; rfl, hs⟩
  have q4d : (u < 1) = False := eq_false (by omega)
  by_cases q5 : 1048576 < u
  ·have q5d : ((1048576 : Int) < u) = True := eq_true (by omega)
   have B0 := Lib.hid (sw_3 HG.out (by omega) Bi.out (by omega))
   go_wp2
   go_ret3
   exact ⟨by rw [B0.out.1, B0.out.2.1, B0.out.2.2]; rfl, hs⟩
  have q5d : ((1048576 : Int) < u) = False := eq_false (by omega)
  by_cases q6 : v < 1
  ·have q6d : (v < 1) = True := eq_true (by omega)
   have B0 := Lib.hid (sw_3 HG.out (by omega) Bi.out (by omega))
   go_wp2
   go_ret3
   exact ⟨by rw [B0.out.1, B0.out.2.1, B0.out.2.2]; rfl, hs⟩
  have q6d : (v < 1) = False := eq_false (by omega)
  by_cases q7 : 1048576 < v
  ·have q7d : ((1048576 : Int) < v) = True := eq_true (by omega)
   have B0 := Lib.hid (sw_3 HG.out (by omega) Bi.out (by omega))
   go_wp2
   go_ret3
   exact ⟨by rw [B0.out.1, B0.out.2.1, B0.out.2.2]; rfl, hs⟩
  have q7d : ((1048576 : Int) < v) = False := eq_false (by omega)
  go_wp2_with fail
  with_reducible refine (pl_checkBoxes _ obs _ (RowsI.mono IE.kept HO.out hs)).mono ?_
  rintro e Bv ⟨rfl, hb⟩
  replace hs := bStep hs hb
  clear hb
  obtain ⟨Bu, Bh⟩ : ∃ z : Int, z = bxsE obs := ⟨_, rfl⟩
  rw [← Bh]
  replace Bh := Lib.hid Bh
  by_cases q9 : Bu = 0
  ·have q9b : (Bu == 0) = true := beq_iff_eq.2 (by omega)
   have q9n : (Bu != 0) = false := bne_eq_false_iff_eq.2 (by omega)
   have q9H := Lib.hid q9
   clear q9
   have C9 : bxsE obs = 0 := by rw [← Bh.out]; first | omega | simpa using q9H.out
   have Ca := Lib.hid (show swE path u v obs = 0 from (sw_4 (by omega) Bi.out (by omega)).trans C9)
   have HBX := Lib.hid (bxs_ok C9).2
   have HBL := (bxs_ok C9).1
   clear C9
   have WU := Lib.hid (show Wn 1048576 u from Wn.lit (by omega) (by omega))
   have WV := Lib.hid (show Wn 1048576 v from Wn.lit (by omega) (by omega))
   have SX10c : (1 : Int) ≤ (path.length : Int) := by omega
   have SX10d : (1 : Int) ≤ (cl : Int) := by omega
   have hcapF : (cl = 1) = False := eq_false (by omega)
   go_wp2
   go_loopw [58] (fun s58 wq => ∃ i : Nat, i ≤ (path.length - 1) ∧ s58 = .int .i64 i ∧ Below w.heap.size w wq ∧ (∀ c d, c < i → d < obs.length → hitN path u v obs c d = false)) (fun s58 _ => (path.length - 1) - (intOf s58).toNat)
   case atStart => exact ⟨0, Nat.zero_le _, rfl, hs, (fun c d h => absurd h (Nat.not_lt_zero c))⟩
   case round =>
    clear hs
    obtain ⟨i, Cd, rfl, hs, HI⟩ := hrel
    obtain ⟨Ba, C2⟩ : ∃ x, x = wr := ⟨_, rfl⟩
    subst C2
    replace HI := Lib.hid HI
    by_cases q11 : i < (path.length - 1)
    ·have q11d : ((i : Int) < ((path.length - 1) : Int)) = True := eq_true (by omega)
     obtain ⟨By, Bz, le12⟩ := rowIP_at (RowsI.mono IP.kept HL.out hs) (show i + 1 < path.length by omega)
     obtain ⟨B1, Be⟩ : ∃ z : Pt, z = ptZ path (i + 1) := ⟨_, rfl⟩
     rw [← Be] at By Bz
     rw [show po + (i + 1) * 2 = po + 2 + i * 2 from by omega] at By Bz
     have Ce : WP 1048576 B1 := by rw [Be]; exact (rt_wp (Bi.out (i + 1) (by omega)))
     replace Be := Lib.hid Be
     go_wp2
     clear le12 By Bz
     refine Code.abs ?_
     intro C3 hW
     have hG : Gr [] Ba C3 := by rw [hW]; exact (Gr.refl _ _).alloc
     have sz_w42 := hs.size
     have B5 : Bx C3 (Ba.heap.size) 31 #[.int .i64 B1.1, .int .i64 B1.2] := by rw [hW]; exact (Bx.new0 _ _ _)
     replace hs := hs.trans (hG.below0 hs.size)
     clear hW hG
     have hz_w42 := B5.lt
     go_loopw [65] (fun s65 wq => ∃ b : Nat, b ≤ obs.length ∧ s65 = .int .i64 b ∧ Below w.heap.size w wq ∧ Bx wq (Ba.heap.size) 31 #[.int .i64 B1.1, .int .i64 B1.2] ∧ (∀ d, d < b → hitN path u v obs i d = false)) (fun s65 _ => obs.length - (intOf s65).toNat)
     case atStart => exact ⟨0, Nat.zero_le _, rfl, hs, B5, (fun d h => absurd h (Nat.not_lt_zero d))⟩
     case round =>
      clear B5 hs
      obtain ⟨b, Cd, rfl, hs, B5, HK⟩ := hrel
      obtain ⟨B4, C2⟩ : ∃ x, x = wr := ⟨_, rfl⟩
      subst C2
      replace HK := Lib.hid HK
      by_cases q13 : b < obs.length
      ·have q13d : ((b : Int) < (obs.length : Int)) = True := eq_true (by omega)
       obtain ⟨ob, oo, oc, C1, -, -⟩ := rowI_open HO.out (by omega)
       obtain ⟨rfl, rfl⟩ := sliceE C1
       clear C1
       obtain ⟨C5, C6, C7, C8, le14⟩ := rowIE_at (RowsI.mono IE.kept HO.out hs) (show b < obs.length by omega)
       obtain ⟨B2, Bc⟩ : ∃ z : Pt, z = (bxZ obs b).1 := ⟨_, rfl⟩
       obtain ⟨B3, Bd⟩ : ∃ z : Pt, z = (bxZ obs b).2 := ⟨_, rfl⟩
       rw [show (obs.getD b ((0, 0), (0, 0))).1.1 = B2.1 from by rw [Bc]; rfl] at C5
       rw [show (obs.getD b ((0, 0), (0, 0))).1.2 = B2.2 from by rw [Bc]; rfl] at C6
       rw [show (obs.getD b ((0, 0), (0, 0))).2.1 = B3.1 from by rw [Bd]; rfl] at C7
       rw [show (obs.getD b ((0, 0), (0, 0))).2.2 = B3.2 from by rw [Bd]; rfl] at C8
       replace Bc := Lib.hid Bc
       replace Bd := Lib.hid Bd
       have Cf : WP 1048576 B2 := by rw [Bc.out]; exact (HBX.out _ (bxZ_mem (by omega))).1
       have Ch : WP 1048576 B3 := by rw [Bd.out]; exact (HBX.out _ (bxZ_mem (by omega))).2
       have hipd : (i < path.length) = True := eq_true (by omega)
       go_upto_region 20 with fail
       clear le14 C5 C6 C7 C8
       refine Code.abs ?_
       intro Bt hW
       have hG : Gr [] B4 Bt := by rw [hW]; exact (Gr.refl _ _).alloc
       have sz_w63 := hs.size
       have np_w63 := B5.lt
       have Bg : Bx Bt (B4.heap.size) 41 #[.int .i64 B2.1, .int .i64 B2.2, .int .i64 B3.1, .int .i64 B3.2] := by rw [hW]; exact (Bx.new0 _ _ _)
       replace hs := hs.trans (hG.below0 hs.size)
       replace B5 := hG.bx B5 notMem0
       clear hW hG
       have hz_w63 := Bg.lt
       obtain ⟨B8, B9, le15⟩ := rowIP_at (RowsI.mono IP.kept HL.out hs) (show i < path.length by omega)
       obtain ⟨Bb, Bf⟩ : ∃ z : Pt, z = ptZ path i := ⟨_, rfl⟩
       rw [← Bf] at B8 B9
       have Cg : WP 1048576 Bb := by rw [Bf]; exact (rt_wp (Bi.out i (by omega)))
       replace Bf := Lib.hid Bf
       obtain ⟨b16, Bk⟩ : ∃ zz : Bool, zz = hitB Bb B1 u v (B2, B3) := ⟨_, rfl⟩
       replace Bk := Lib.hid Bk
       refine U_region (S := fun w' => w'.cell? ⟨Ba.heap.size, 0, none⟩ = some (.int .i64 B1.1) ∧ w'.cell? ⟨Ba.heap.size, 1, none⟩ = some (.int .i64 B1.2) ∧ w'.cell? ⟨B4.heap.size, 0, none⟩ = some (.int .i64 B2.1) ∧ w'.cell? ⟨B4.heap.size, 1, none⟩ = some (.int .i64 B2.2) ∧ w'.cell? ⟨B4.heap.size, 2, none⟩ = some (.int .i64 B3.1) ∧ w'.cell? ⟨B4.heap.size, 3, none⟩ = some (.int .i64 B3.2) ∧ w'.cell? ⟨pb, po + i * 2, none⟩ = some (.int .i64 Bb.1) ∧ w'.cell? ⟨pb, po + i * 2 + 1, none⟩ = some (.int .i64 Bb.2)) (by kernel_rfl) 9 ?_
       refine AnyU.abs ?_
       intro B7 hW
       have hb : Below Bt.heap.size Bt B7 := by rw [hW]; exact bDrew _
       replace hs := bStep hs hb
       revert Bg; revert B5; refine mo hb ?_; intro B5 Bg
       replace B8 := cellK B8 hb
       replace B9 := cellK B9 hb
       clear hb hW
       refine B5.k2 fun Bq Br => ?_
       refine Bg.k4 fun Bm Bn Bo Bp => ?_
       have hH := (show B7.cell? ⟨Ba.heap.size, 0, none⟩ = some (.int .i64 B1.1) ∧ B7.cell? ⟨Ba.heap.size, 1, none⟩ = some (.int .i64 B1.2) ∧ B7.cell? ⟨B4.heap.size, 0, none⟩ = some (.int .i64 B2.1) ∧ B7.cell? ⟨B4.heap.size, 1, none⟩ = some (.int .i64 B2.2) ∧ B7.cell? ⟨B4.heap.size, 2, none⟩ = some (.int .i64 B3.1) ∧ B7.cell? ⟨B4.heap.size, 3, none⟩ = some (.int .i64 B3.2) ∧ B7.cell? ⟨pb, po + i * 2, none⟩ = some (.int .i64 Bb.1) ∧ B7.cell? ⟨pb, po + i * 2 + 1, none⟩ = some (.int .i64 Bb.2) from ⟨Bq, Br, Bm, Bn, Bo, Bp, B8, B9⟩)
       refine U_tq 0 70 hH ?_
       simp only [LY]
       refine U_tq 1 71 hH ?_
       simp only [LY]
       refine U_tq 2 72 hH ?_
       simp only [LY]
       refine U_tq 3 73 hH ?_
       simp only [LY]
       refine U_tq 4 74 hH ?_
       simp only [LY]
       refine U_tq 5 75 hH ?_
       simp only [LY]
       refine U_tq 6 76 hH ?_
       simp only [LY]
       refine U_tq 7 77 hH ?_
       simp only [LY]
       clear hH
       refine U_on 8 fun K hK => ?_
       go_simp
       (with_reducible refine (pl_hits Bb B1 B2 B3 u v _ Cg Ce Cf Ch WU.out WV.out).mono ?_)
       rintro e w65 ⟨rfl, hb⟩
       replace hs := bStep hs hb
       revert Bg; revert B5; refine mo hb ?_; intro B5 Bg
       replace Bq := cellK Bq hb
       replace Br := cellK Br hb
       replace Bm := cellK Bm hb
       replace Bn := cellK Bn hb
       replace Bo := cellK Bo hb
       replace Bp := cellK Bp hb
       replace B8 := cellK B8 hb
       replace B9 := cellK B9 hb
       clear hb
       rw [← Bk.out]
       try go_wp2_with fail
       refine hK.out _ _ ⟨Bq, Br, Bm, Bn, Bo, Bp, B8, B9⟩ (fun hH => ?_)
       clear hK K
       try simp only [LY]
       clear hH
       refine U_endN (by kernel_rfl) ?_
       clear Bq Br Bm Bn Bo Bp B8 B9
       by_cases q17 : hitB Bb B1 u v (B2, B3) = true
       ·obtain rfl : b16 = true := by rw [Bk.out]; exact q17
        have C4 := Lib.hid q17
        clear q17
        have B0 := Lib.hid (show ri = (i : Int) ∧ rk = (b : Int) ∧ swE path u v obs = 0 from (fun h => ⟨h.1, h.2, Ca.out⟩) (sw_6 HG.out Ca.out (by omega) (by omega) (show hitN path u v obs i b = true from by show hitB (ptZ path i) (ptZ path (i + 1)) u v (bxZ obs b) = true; rw [show ptZ path i = Bb from Bf.out.symm, show ptZ path (i + 1) = B1 from Be.out.symm, show bxZ obs b = (B2, B3) from by rw [Bc.out, Bd.out]]; exact C4.out) HI.out HK.out))
        go_wp2
        clear le15
        go_ret3
        exact ⟨by rw [B0.out.1, B0.out.2.1, B0.out.2.2]; rfl, hs⟩
       obtain rfl : b16 = false := by rw [Bk.out]; simpa using q17
       have C4 := Lib.hid q17
       clear q17
       go_wp2
       go_roundw
       case rel => exact ⟨b + 1, by omega, by go_num, hs, B5, (fun d h => (Nat.lt_or_eq_of_le (Nat.le_of_lt_succ h)).elim (fun e => HK.out d e) (fun e => by rw [e]; exact (show hitN path u v obs i b = false from by show hitB (ptZ path i) (ptZ path (i + 1)) u v (bxZ obs b) = false; rw [show ptZ path i = Bb from Bf.out.symm, show ptZ path (i + 1) = B1 from Be.out.symm, show bxZ obs b = (B2, B3) from by rw [Bc.out, Bd.out]]; exact Bool.eq_false_iff.2 C4.out)))⟩
       all_goals first | (simp [intOf]; done) | (simp [intOf]; omega)
      have q13d : ((b : Int) < (obs.length : Int)) = False := eq_false (by omega)
      go_wp2
      go_roundw
      case rel => exact ⟨i + 1, by omega, by go_num, hs, (fun c d h hd => (Nat.lt_or_eq_of_le (Nat.le_of_lt_succ h)).elim (fun e => HI.out c d e hd) (fun e => by rw [e]; exact HK.out d (by omega)))⟩
      all_goals first | (simp [intOf]; done) | (simp [intOf]; omega)
    have q11d : ((i : Int) < ((path.length - 1) : Int)) = False := eq_false (by omega)
    have B0 := Lib.hid (show ri = -1 ∧ rk = -1 ∧ swE path u v obs = 0 from (fun h => ⟨h.1, h.2, Ca.out⟩) (sw_7 HG.out Ca.out (fun c d hc hd => HI.out c d (by omega) hd)))
    go_wp2
    go_ret3
    exact ⟨by rw [B0.out.1, B0.out.2.1, B0.out.2.2]; rfl, hs⟩
  have q9b : (Bu == 0) = false := beq_eq_false_iff_ne.2 (by omega)
  have q9n : (Bu != 0) = true := bne_iff_ne.2 (by omega)
  have q9H := Lib.hid q9
  clear q9
  have B0 := Lib.hid (show ri = 0 ∧ rk = 0 ∧ swE path u v obs = Bu from (by have h := sw_5 HG.out (by omega) Bi.out (by omega) (show bxsE obs ≠ 0 from by rw [← Bh.out]; first | exact q9H.out | omega); rw [← Bh.out] at h; exact h))
  go_wp2
  go_ret3
  exact ⟨by rw [B0.out.1, B0.out.2.1, B0.out.2.2]; rfl, hs⟩
end Go.Proofs.YtbnomdlojmgigaaGreat
