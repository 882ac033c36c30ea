/-
  The first step of a moving box that runs into an obstacle: the program's words and the reference's.
-/
import Derived.Test.YtbnomdlojmgigaaGreatPlOQ
import Derived.Test.YtbnomdlojmgigaaGreatSwp2Q
set_option linter.unusedSimpArgs false
set_option linter.unusedVariables false
set_option maxRecDepth 100000
set_option maxHeartbeats 16000000
namespace Go.Proofs.YtbnomdlojmgigaaGreat
open Go.RowKit Dg
attribute [local go_sem ↓] Go.wp_at_zero Go.wp_at_succ
theorem pl_Sweep (va vo : Value) (path : List Pt) (obs : List Bxx) (u v : Int) (w : World) (hl : Pts w va path) (ho : Bxs w vo obs) {ri rk : Int} (hg : SwO path u v obs ri rk) :
  Calls Tryz.prog 8 #[va, .int .i64 u, .int .i64 v, vo] w (RetV w (.tuple #[.int .i64 ri, .int .i64 rk, .int .i64 (swE path u v obs)])) := by
 obtain ⟨al, cl, rfl, -, -, -⟩ := hl.slice
 obtain ⟨ol, ok, rfl, -, -, -⟩ := ho.slice
 have hs := Below.refl w.heap.size w
 have HL := Lib.hid hl
 have HO := Lib.hid ho
 have HG := Lib.hid hg
 clear hl ho hg
 go_enter Tryz.func8, Tryz.ntmps8
 by_cases q1 : path.length < 2
 ·have q1d : ((path.length : Int) < 2) = True := eq_true (by omega)
  have B0 := Lib.hid (sw_1 HG.out (by omega))
  go_wp2
  go_ret3
  exact ⟨by rw [B0.out.1, B0.out.2.1, B0.out.2.2]; rfl, hs⟩
 have q1d : ((path.length : Int) < 2) = False := eq_false (by omega)
 by_cases q2 : 32 < path.length
 ·have q2d : ((32 : Int) < (path.length : Int)) = True := eq_true (by omega)
  have B0 := Lib.hid (sw_1 HG.out (by omega))
  go_wp2
  go_ret3
  exact ⟨by rw [B0.out.1, B0.out.2.1, B0.out.2.2]; rfl, hs⟩
 have q2d : ((32 : Int) < (path.length : Int)) = False := eq_false (by omega)
 obtain ⟨pb, po, pc, Bv, hpc1, hpc2⟩ := rowI_open HL.out (by omega)
 obtain ⟨rfl, rfl⟩ := sliceE Bv
 clear Bv
 go_wp2
 go_loopw [28] (fun s28 wq => ∃ a : Nat, a ≤ path.length ∧ s28 = .int .i64 a ∧ Below w.heap.size w wq ∧ (∀ j, j < a → rtB (ptZ path j) = true)) (fun s28 _ => path.length - (intOf s28).toNat)
 case atStart => exact ⟨0, Nat.zero_le _, rfl, hs, (fun j h => absurd h (Nat.not_lt_zero j))⟩
 case round =>
  clear hs
  obtain ⟨a, Ce, rfl, hs, HR⟩ := hrel
  obtain ⟨Ch, Bw⟩ : ∃ x, x = wr := ⟨_, rfl⟩
  subst Bw
  replace HR := Lib.hid HR
  by_cases q3 : a < path.length
  ·have q3d : ((a : Int) < (path.length : Int)) = True := eq_true (by omega)
   obtain ⟨C6, C7, le4⟩ := rowIP_at (RowsI.mono IP.kept HL.out hs) (show a < path.length by omega)
   obtain ⟨Br, Bl⟩ : ∃ z : Pt, z = ptZ path a := ⟨_, rfl⟩
   rw [← Bl] at C6 C7
   replace Bl := Lib.hid Bl
   go_wp2_with fail
   clear le4 C6 C7
   refine Calls.abs ?_
   intro C4 hW
   have hG : Gr [] Ch C4 := by rw [hW]; exact (Gr.refl _ _).alloc
   have sz_w21 := hs.size
   have Bg : Bx C4 (Ch.heap.size) 31 #[.int .i64 Br.1, .int .i64 Br.2] := by rw [hW]; exact (Bx.new0 _ _ _)
   replace hs := hs.trans (hG.below0 hs.size)
   clear hW hG
   have hz_w21 := Bg.lt
   with_reducible refine (pl_right Br _).mono ?_
   rintro e w22 ⟨rfl, hb⟩
   revert Bg; refine mS hs hb ?_; clear hs hb; intro hs Bg
   obtain ⟨b5, Bu⟩ : ∃ zz : Bool, zz = rtB Br := ⟨_, rfl⟩
   rw [← Bu]
   replace Bu := Lib.hid Bu
   by_cases q6 : rtB Br = true
   ·obtain rfl : b5 = true := by rw [Bu.out]; exact q6
    have Cf := Lib.hid q6
    clear q6
    go_wp2
    go_roundw
    case rel => exact ⟨a + 1, by omega, by go_num, hs, (fun j h => (Nat.lt_or_eq_of_le (Nat.le_of_lt_succ h)).elim (fun e => HR.out j e) (fun e => by rw [e, show ptZ path a = Br from Bl.out.symm]; exact Cf.out))⟩
    all_goals first | (simp [intOf]; done) | (simp [intOf]; omega)
   obtain rfl : b5 = false := by rw [Bu.out]; simpa using q6
   have Cf := Lib.hid q6
   clear q6
   have B0 := Lib.hid (sw_2 HG.out (by omega) (a := a) (by omega) (show rtB (ptZ path a) = false from by rw [show ptZ path a = Br from Bl.out.symm]; exact Bool.eq_false_iff.2 Cf.out))
   go_wp2
   go_ret3
   exact ⟨by rw [B0.out.1, B0.out.2.1, B0.out.2.2]; rfl, hs⟩
  have q3d : ((a : Int) < (path.length : Int)) = False := eq_false (by omega)
  have Bi := Lib.hid (show ∀ j, j < path.length → rtB (ptZ path j) = true from fun j hj => HR.out j (by omega))
  by_cases q4 : u < 1
  ·have q4d : (u < 1) = True := eq_true (by omega)
   have B0 := Lib.hid (sw_3 HG.out (by omega) Bi.out (by omega))
   go_wp2
   go_ret3
   exact ⟨by rw [B0.out.1, B0.out.2.1, B0.out.2.2]; rfl, hs⟩
  have q4d : (u < 1) = False := eq_false (by omega)
  by_cases q5 : 1048576 < u
  ·have q5d : ((1048576 : Int) < u) = True := eq_true (by omega)
   have B0 := Lib.hid (sw_3 HG.out (by omega) Bi.out (by omega))
   go_wp2
   go_ret3
   exact ⟨by rw [B0.out.1, B0.out.2.1, B0.out.2.2]; rfl, hs⟩
  have q5d : ((1048576 : Int) < u) = False := eq_false (by omega)
  by_cases q6 : v < 1
  ·have q6d : (v < 1) = True := eq_true (by omega)
   have B0 := Lib.hid (sw_3 HG.out (by omega) Bi.out (by omega))
   go_wp2
   go_ret3
   exact ⟨by rw [B0.out.1, B0.out.2.1, B0.out.2.2]; rfl, hs⟩
  have q6d : (v < 1) = False := eq_false (by omega)
  by_cases q7 : 1048576 < v
  ·have q7d : ((1048576 : Int) < v) = True := eq_true (by omega)
   have B0 := Lib.hid (sw_3 HG.out (by omega) Bi.out (by omega))
   go_wp2
   go_ret3
   exact ⟨by rw [B0.out.1, B0.out.2.1, B0.out.2.2]; rfl, hs⟩
  have q7d : ((1048576 : Int) < v) = False := eq_false (by omega)
  go_wp2_with fail
  with_reducible refine (pl_checkBoxes _ obs _ (RowsI.mono IE.kept HO.out hs)).mono ?_
  rintro e C4 ⟨rfl, hb⟩
  replace hs := bStep hs hb
  clear hb
  obtain ⟨Bq, Bh⟩ : ∃ z : Int, z = bxsE obs := ⟨_, rfl⟩
  rw [← Bh]
  replace Bh := Lib.hid Bh
  by_cases q9 : Bq = 0
  ·have q9b : (Bq == 0) = true := beq_iff_eq.2 (by omega)
   have q9n : (Bq != 0) = false := bne_eq_false_iff_eq.2 (by omega)
   have Cg := Lib.hid q9
   clear q9
   have C0 : bxsE obs = 0 := by rw [← Bh.out]; first | omega | simpa using Cg.out
   have C1 := Lib.hid (show swE path u v obs = 0 from (sw_4 (by omega) Bi.out (by omega)).trans C0)
   have Cl := Lib.hid (bxs_ok C0).2
   have HBL := (bxs_ok C0).1
   clear C0
   have WU := Lib.hid (show Wn 1048576 u from Wn.lit (by omega) (by omega))
   have WV := Lib.hid (show Wn 1048576 v from Wn.lit (by omega) (by omega))
   have SX10c : (1 : Int) ≤ (path.length : Int) := by omega
   have SX10d : (1 : Int) ≤ (cl : Int) := by omega
   have hcapF : (cl = 1) = False := eq_false (by omega)
   go_wp2
   go_loopw [58] (fun s58 wq => ∃ i : Nat, i ≤ (path.length - 1) ∧ s58 = .int .i64 i ∧ Below w.heap.size w wq ∧ (∀ c d, c < i → d < obs.length → hitN path u v obs c d = false)) (fun s58 _ => (path.length - 1) - (intOf s58).toNat)
   case atStart => exact ⟨0, Nat.zero_le _, rfl, hs, (fun c d h => absurd h (Nat.not_lt_zero c))⟩
   case round =>
    clear hs
    obtain ⟨i, Ce, rfl, hs, HI⟩ := hrel
    obtain ⟨Bn, Bw⟩ : ∃ x, x = wr := ⟨_, rfl⟩
    subst Bw
    replace HI := Lib.hid HI
    by_cases q11 : i < (path.length - 1)
    ·have Cr : ((i : Int) < ((path.length - 1) : Int)) = True := eq_true (by omega)
     obtain ⟨Bc, Bd, Co⟩ := rowIP_at (RowsI.mono IP.kept HL.out hs) (show i + 1 < path.length by omega)
     obtain ⟨B2, B9⟩ : ∃ z : Pt, z = ptZ path (i + 1) := ⟨_, rfl⟩
     rw [← B9] at Bc Bd
     rw [show po + (i + 1) * 2 = po + 2 + i * 2 from by omega] at Bc Bd
     have Ci : WP 1048576 B2 := by rw [B9]; exact (rt_wp (Bi.out (i + 1) (by omega)))
     replace B9 := Lib.hid B9
     go_wp2
     clear Co Bc Bd
     refine Code.abs ?_
     intro Cn hW
     have hG : Gr [] Bn Cn := by rw [hW]; exact (Gr.refl _ _).alloc
     have sz_w42 := hs.size
     have Bg : Bx Cn (Bn.heap.size) 31 #[.int .i64 B2.1, .int .i64 B2.2] := by rw [hW]; exact (Bx.new0 _ _ _)
     replace hs := hs.trans (hG.below0 hs.size)
     clear hW hG
     have hz_w42 := Bg.lt
     go_loopw [65] (fun s65 wq => ∃ b : Nat, b ≤ obs.length ∧ s65 = .int .i64 b ∧ Below w.heap.size w wq ∧ Bx wq (Bn.heap.size) 31 #[.int .i64 B2.1, .int .i64 B2.2] ∧ (∀ d, d < b → hitN path u v obs i d = false)) (fun s65 _ => obs.length - (intOf s65).toNat)
     case atStart => exact ⟨0, Nat.zero_le _, rfl, hs, Bg, (fun d h => absurd h (Nat.not_lt_zero d))⟩
     case round =>
      clear Bg hs
      obtain ⟨b, Ce, rfl, hs, Bg, HK⟩ := hrel
      obtain ⟨Ba, Bw⟩ : ∃ x, x = wr := ⟨_, rfl⟩
      subst Bw
      replace HK := Lib.hid HK
      by_cases q13 : b < obs.length
      ·have q13d : ((b : Int) < (obs.length : Int)) = True := eq_true (by omega)
       obtain ⟨ob, oo, oc, Bv, -, -⟩ := rowI_open HO.out (by omega)
       obtain ⟨rfl, rfl⟩ := sliceE Bv
       clear Bv
       obtain ⟨Be, Bf, Cs, Ct, Cp⟩ := rowIE_at (RowsI.mono IE.kept HO.out hs) (show b < obs.length by omega)
       obtain ⟨B3, B7⟩ : ∃ z : Pt, z = (bxZ obs b).1 := ⟨_, rfl⟩
       obtain ⟨Bb, Bs⟩ : ∃ z : Pt, z = (bxZ obs b).2 := ⟨_, rfl⟩
       rw [show (obs.getD b ((0, 0), (0, 0))).1.1 = B3.1 from by rw [B7]; rfl] at Be
       rw [show (obs.getD b ((0, 0), (0, 0))).1.2 = B3.2 from by rw [B7]; rfl] at Bf
       rw [show (obs.getD b ((0, 0), (0, 0))).2.1 = Bb.1 from by rw [Bs]; rfl] at Cs
       rw [show (obs.getD b ((0, 0), (0, 0))).2.2 = Bb.2 from by rw [Bs]; rfl] at Ct
       replace B7 := Lib.hid B7
       replace Bs := Lib.hid Bs
       have Cj : WP 1048576 B3 := by rw [B7.out]; exact (Cl.out _ (bxZ_mem (by omega))).1
       have Cu : WP 1048576 Bb := by rw [Bs.out]; exact (Cl.out _ (bxZ_mem (by omega))).2
       have hipd : (i < path.length) = True := eq_true (by omega)
       go_upto_region 20 with fail
       clear Cp Be Bf Cs Ct
       refine Code.abs ?_
       intro C5 hW
       have hG : Gr [] Ba C5 := by rw [hW]; exact (Gr.refl _ _).alloc
       have sz_w63 := hs.size
       have np_w63 := Bg.lt
       have Bz : Bx C5 (Ba.heap.size) 41 #[.int .i64 B3.1, .int .i64 B3.2, .int .i64 Bb.1, .int .i64 Bb.2] := by rw [hW]; exact (Bx.new0 _ _ _)
       replace hs := hs.trans (hG.below0 hs.size)
       replace Bg := hG.bx Bg notMem0
       clear hW hG
       have hz_w63 := Bz.lt
       obtain ⟨B5, B6, Cq⟩ := rowIP_at (RowsI.mono IP.kept HL.out hs) (show i < path.length by omega)
       obtain ⟨B4, B8⟩ : ∃ z : Pt, z = ptZ path i := ⟨_, rfl⟩
       rw [← B8] at B5 B6
       have Ck : WP 1048576 B4 := by rw [B8]; exact (rt_wp (Bi.out i (by omega)))
       replace B8 := Lib.hid B8
       obtain ⟨Cm, Bk⟩ : ∃ zz : Bool, zz = hitB B4 B2 u v (B3, Bb) := ⟨_, rfl⟩
       replace Bk := Lib.hid Bk
       refine U_region (S := fun w' => w'.cell? ⟨Bn.heap.size, 0, none⟩ = some (.int .i64 B2.1) ∧ w'.cell? ⟨Bn.heap.size, 1, none⟩ = some (.int .i64 B2.2) ∧ w'.cell? ⟨Ba.heap.size, 0, none⟩ = some (.int .i64 B3.1) ∧ w'.cell? ⟨Ba.heap.size, 1, none⟩ = some (.int .i64 B3.2) ∧ w'.cell? ⟨Ba.heap.size, 2, none⟩ = some (.int .i64 Bb.1) ∧ w'.cell? ⟨Ba.heap.size, 3, none⟩ = some (.int .i64 Bb.2) ∧ w'.cell? ⟨pb, po + i * 2, none⟩ = some (.int .i64 B4.1) ∧ w'.cell? ⟨pb, po + i * 2 + 1, none⟩ = some (.int .i64 B4.2)) (by kernel_rfl) 9 ?_
       refine AnyU.abs ?_
       intro Bm hW
       have hb : Below C5.heap.size C5 Bm := by rw [hW]; exact bDrew _
       replace hs := bStep hs hb
       revert Bz; revert Bg; refine mo hb ?_; intro Bg Bz
       replace B5 := cellK B5 hb
       replace B6 := cellK B6 hb
       clear hb hW
       refine Bg.k2 fun Cc Cd => ?_
       refine Bz.k4 fun C8 C9 Ca Cb => ?_
       have hH := (show Bm.cell? ⟨Bn.heap.size, 0, none⟩ = some (.int .i64 B2.1) ∧ Bm.cell? ⟨Bn.heap.size, 1, none⟩ = some (.int .i64 B2.2) ∧ Bm.cell? ⟨Ba.heap.size, 0, none⟩ = some (.int .i64 B3.1) ∧ Bm.cell? ⟨Ba.heap.size, 1, none⟩ = some (.int .i64 B3.2) ∧ Bm.cell? ⟨Ba.heap.size, 2, none⟩ = some (.int .i64 Bb.1) ∧ Bm.cell? ⟨Ba.heap.size, 3, none⟩ = some (.int .i64 Bb.2) ∧ Bm.cell? ⟨pb, po + i * 2, none⟩ = some (.int .i64 B4.1) ∧ Bm.cell? ⟨pb, po + i * 2 + 1, none⟩ = some (.int .i64 B4.2) from ⟨Cc, Cd, C8, C9, Ca, Cb, B5, B6⟩)
       refine U_tq 0 70 hH ?_
       simp only [LY]
       refine U_tq 1 71 hH ?_
       simp only [LY]
       refine U_tq 2 72 hH ?_
       simp only [LY]
       refine U_tq 3 73 hH ?_
       simp only [LY]
       refine U_tq 4 74 hH ?_
       simp only [LY]
       refine U_tq 5 75 hH ?_
       simp only [LY]
       refine U_tq 6 76 hH ?_
       simp only [LY]
       refine U_tq 7 77 hH ?_
       simp only [LY]
       clear hH
       refine U_on 8 fun K hK => ?_
       go_simp
       (with_reducible refine (pl_hits B4 B2 B3 Bb u v _ Ck Ci Cj Cu WU.out WV.out).mono ?_)
       rintro e w65 ⟨rfl, hb⟩
       replace hs := bStep hs hb
       revert Bz; revert Bg; refine mo hb ?_; intro Bg Bz
       replace Cc := cellK Cc hb
       replace Cd := cellK Cd hb
       replace C8 := cellK C8 hb
       replace C9 := cellK C9 hb
       replace Ca := cellK Ca hb
       replace Cb := cellK Cb hb
       replace B5 := cellK B5 hb
       replace B6 := cellK B6 hb
       clear hb
       rw [← Bk.out]
       try go_wp2_with fail
       refine hK.out _ _ ⟨Cc, Cd, C8, C9, Ca, Cb, B5, B6⟩ (fun hH => ?_)
       clear hK K
       try simp only [LY]
       clear hH
       refine U_endN (by kernel_rfl) ?_
       clear Cc Cd C8 C9 Ca Cb B5 B6
       by_cases q17 : hitB B4 B2 u v (B3, Bb) = true
       ·obtain rfl : Cm = true := by rw [Bk.out]; exact q17
        have By := Lib.hid q17
        clear q17
        have B0 := Lib.hid (show ri = (i : Int) ∧ rk = (b : Int) ∧ swE path u v obs = 0 from (fun h => ⟨h.1, h.2, C1.out⟩) (sw_6 HG.out C1.out (by omega) (by omega) (show hitN path u v obs i b = true from by show hitB (ptZ path i) (ptZ path (i + 1)) u v (bxZ obs b) = true; rw [show ptZ path i = B4 from B8.out.symm, show ptZ path (i + 1) = B2 from B9.out.symm, show bxZ obs b = (B3, Bb) from by rw [B7.out, Bs.out]]; exact By.out) HI.out HK.out))
        go_wp2
        clear Cq
        go_ret3
        exact ⟨by rw [B0.out.1, B0.out.2.1, B0.out.2.2]; rfl, hs⟩
       obtain rfl : Cm = false := by rw [Bk.out]; simpa using q17
       have By := Lib.hid q17
       clear q17
       go_wp2
       go_roundw
       case rel => exact ⟨b + 1, by omega, by go_num, hs, Bg, (fun d h => (Nat.lt_or_eq_of_le (Nat.le_of_lt_succ h)).elim (fun e => HK.out d e) (fun e => by rw [e]; exact (show hitN path u v obs i b = false from by show hitB (ptZ path i) (ptZ path (i + 1)) u v (bxZ obs b) = false; rw [show ptZ path i = B4 from B8.out.symm, show ptZ path (i + 1) = B2 from B9.out.symm, show bxZ obs b = (B3, Bb) from by rw [B7.out, Bs.out]]; exact Bool.eq_false_iff.2 By.out)))⟩
       all_goals first | (simp [intOf]; done) | (simp [intOf]; omega)
      have q13d : ((b : Int) < (obs.length : Int)) = False := eq_false (by omega)
      go_wp2
      go_roundw
      case rel => exact ⟨i + 1, by omega, by go_num, hs, (fun c d h hd => (Nat.lt_or_eq_of_le (Nat.le_of_lt_succ h)).elim (fun e => HI.out c d e hd) (fun e => by rw [e]; exact HK.out d (by omega)))⟩
      all_goals first | (simp [intOf]; done) | (simp [intOf]; omega)
    have Cr : ((i : Int) < ((path.length - 1) : Int)) = False := eq_false (by omega)
    have B0 := Lib.hid (show ri = -1 ∧ rk = -1 ∧ swE path u v obs = 0 from (fun h => ⟨h.1, h.2, C1.out⟩) (sw_7 HG.out C1.out (fun c d hc hd => HI.out c d (by omega) hd)))
    go_wp2
    go_ret3
    exact ⟨by rw [B0.out.1, B0.out.2.1, B0.out.2.2]; rfl, hs⟩
  have q9b : (Bq == 0) = false := beq_eq_false_iff_ne.2 (by omega)
  have q9n : (Bq != 0) = true := bne_iff_ne.2 (by omega)
  have Cg := Lib.hid q9
  clear q9
  have B0 := Lib.hid (show ri = 0 ∧ rk = 0 ∧ swE path u v obs = Bq from (by have h := sw_5 HG.out (by omega) Bi.out (by omega) (show bxsE obs ≠ 0 from by rw [← Bh.out]; first | exact Cg.out | omega); rw [← Bh.out] at h; exact h))
  go_wp2
  go_ret3
  exact ⟨by rw [B0.out.1, B0.out.2.1, B0.out.2.2]; rfl, hs⟩
theorem r2_Sweep (va vo : Value) (path : List Pt) (obs : List Bxx) (u v : Int) (w : World) (hl : Pts w va path) (ho : Bxs w vo obs) {ri rk : Int} (hg : SwO path u v obs ri rk) :
  Calls Tryz.prog 9 #[va, .int .i64 u, .int .i64 v, vo] w (RetV w (.tuple #[.int .i64 ri, .int .i64 rk, .int .i64 (swE path u v obs)])) := by
 obtain ⟨al, cl, rfl, -, -, -⟩ := hl.slice
 obtain ⟨ol, ok, rfl, -, -, -⟩ := ho.slice
 have hs := Below.refl w.heap.size w
 have HL := Lib.hid hl
 have HO := Lib.hid ho
 have HG := Lib.hid hg
 clear hl ho hg
 go_enter Tryz.func9, Tryz.ntmps9
 by_cases q1 : path.length < 2
 ·have q1d : ((path.length : Int) < 2) = True := eq_true (by omega)
  have B0 := Lib.hid (sw_1 HG.out (by omega))
  go_wp2
  go_ret3
  exact ⟨by rw [B0.out.1, B0.out.2.1, B0.out.2.2]; rfl, hs⟩
 have q1d : ((path.length : Int) < 2) = False := eq_false (by omega)
 by_cases q2 : 32 < path.length
 ·have q2d : ((32 : Int) < (path.length : Int)) = True := eq_true (by omega)
  have B0 := Lib.hid (sw_1 HG.out (by omega))
  go_wp2
  go_ret3
  exact ⟨by rw [B0.out.1, B0.out.2.1, B0.out.2.2]; rfl, hs⟩
 have q2d : ((32 : Int) < (path.length : Int)) = False := eq_false (by omega)
 obtain ⟨pb, po, pc, Bv, hpc1, hpc2⟩ := rowI_open HL.out (by omega)
 obtain ⟨rfl, rfl⟩ := sliceE Bv
 clear Bv
 go_wp2
 go_loopw [11] (fun s11 wq => ∃ a : Nat, a ≤ path.length ∧ s11 = .int .i64 a ∧ Below w.heap.size w wq ∧ (∀ j, j < a → rtB (ptZ path j) = true)) (fun s11 _ => path.length - (intOf s11).toNat)
 case atStart => exact ⟨0, Nat.zero_le _, rfl, hs, (fun j h => absurd h (Nat.not_lt_zero j))⟩
 case round =>
  clear hs
  obtain ⟨a, Ce, rfl, hs, HR⟩ := hrel
  obtain ⟨Ch, Bw⟩ : ∃ x, x = wr := ⟨_, rfl⟩
  subst Bw
  replace HR := Lib.hid HR
  by_cases q3 : a < path.length
  ·have q3d : ((a : Int) < (path.length : Int)) = True := eq_true (by omega)
   obtain ⟨C6, C7, le4⟩ := rowIP_at (RowsI.mono IP.kept HL.out hs) (show a < path.length by omega)
   obtain ⟨Br, Bl⟩ : ∃ z : Pt, z = ptZ path a := ⟨_, rfl⟩
   rw [← Bl] at C6 C7
   replace Bl := Lib.hid Bl
   go_wp2_with fail
   clear le4 C6 C7
   with_reducible refine (r2_Right Br _).mono ?_
   rintro e C4 ⟨rfl, hb⟩
   replace hs := bStep hs hb
   clear hb
   obtain ⟨b5, Bu⟩ : ∃ zz : Bool, zz = rtB Br := ⟨_, rfl⟩
   rw [← Bu]
   replace Bu := Lib.hid Bu
   by_cases q6 : rtB Br = true
   ·obtain rfl : b5 = true := by rw [Bu.out]; exact q6
    have Cf := Lib.hid q6
    clear q6
    go_wp2
    go_roundw
    case rel => exact ⟨a + 1, by omega, by go_num, hs, (fun j h => (Nat.lt_or_eq_of_le (Nat.le_of_lt_succ h)).elim (fun e => HR.out j e) (fun e => by rw [e, show ptZ path a = Br from Bl.out.symm]; exact Cf.out))⟩
    all_goals first | (simp [intOf]; done) | (simp [intOf]; omega)
   obtain rfl : b5 = false := by rw [Bu.out]; simpa using q6
   have Cf := Lib.hid q6
   clear q6
   have B0 := Lib.hid (sw_2 HG.out (by omega) (a := a) (by omega) (show rtB (ptZ path a) = false from by rw [show ptZ path a = Br from Bl.out.symm]; exact Bool.eq_false_iff.2 Cf.out))
   go_wp2
   go_ret3
   exact ⟨by rw [B0.out.1, B0.out.2.1, B0.out.2.2]; rfl, hs⟩
  have q3d : ((a : Int) < (path.length : Int)) = False := eq_false (by omega)
  have Bi := Lib.hid (show ∀ j, j < path.length → rtB (ptZ path j) = true from fun j hj => HR.out j (by omega))
  by_cases q4 : u < 1
  ·have q4d : (u < 1) = True := eq_true (by omega)
   have B0 := Lib.hid (sw_3 HG.out (by omega) Bi.out (by omega))
   go_wp2
   go_ret3
   exact ⟨by rw [B0.out.1, B0.out.2.1, B0.out.2.2]; rfl, hs⟩
  have q4d : (u < 1) = False := eq_false (by omega)
  by_cases q5 : 1048576 < u
  ·have q5d : ((1048576 : Int) < u) = True := eq_true (by omega)
   have B0 := Lib.hid (sw_3 HG.out (by omega) Bi.out (by omega))
   go_wp2
   go_ret3
   exact ⟨by rw [B0.out.1, B0.out.2.1, B0.out.2.2]; rfl, hs⟩
  have q5d : ((1048576 : Int) < u) = False := eq_false (by omega)
  by_cases q6 : v < 1
  ·have q6d : (v < 1) = True := eq_true (by omega)
   have B0 := Lib.hid (sw_3 HG.out (by omega) Bi.out (by omega))
   go_wp2
   go_ret3
   exact ⟨by rw [B0.out.1, B0.out.2.1, B0.out.2.2]; rfl, hs⟩
  have q6d : (v < 1) = False := eq_false (by omega)
  by_cases q7 : 1048576 < v
  ·have q7d : ((1048576 : Int) < v) = True := eq_true (by omega)
   have B0 := Lib.hid (sw_3 HG.out (by omega) Bi.out (by omega))
   go_wp2
   go_ret3
   exact ⟨by rw [B0.out.1, B0.out.2.1, B0.out.2.2]; rfl, hs⟩
  have q7d : ((1048576 : Int) < v) = False := eq_false (by omega)
  go_wp2_with fail
  with_reducible refine (r2_ValidBoxes _ obs _ (RowsI.mono IE.kept HO.out hs)).mono ?_
  rintro e C4 ⟨rfl, hb⟩
  replace hs := bStep hs hb
  clear hb
  obtain ⟨Bq, Bh⟩ : ∃ z : Int, z = bxsE obs := ⟨_, rfl⟩
  rw [← Bh]
  replace Bh := Lib.hid Bh
  by_cases q9 : Bq = 0
  ·have q9b : (Bq == 0) = true := beq_iff_eq.2 (by omega)
   have q9n : (Bq != 0) = false := bne_eq_false_iff_eq.2 (by omega)
   have Cg := Lib.hid q9
   clear q9
   have C0 : bxsE obs = 0 := by rw [← Bh.out]; first | omega | simpa using Cg.out
   have C1 := Lib.hid (show swE path u v obs = 0 from (sw_4 (by omega) Bi.out (by omega)).trans C0)
   have Cl := Lib.hid (bxs_ok C0).2
   have HBL := (bxs_ok C0).1
   clear C0
   have WU := Lib.hid (show Wn 1048576 u from Wn.lit (by omega) (by omega))
   have WV := Lib.hid (show Wn 1048576 v from Wn.lit (by omega) (by omega))
   go_wp2
   go_loopw [13] (fun s13 wq => ∃ i : Nat, i ≤ (path.length - 1) ∧ s13 = .int .i64 i ∧ Below w.heap.size w wq ∧ (∀ c d, c < i → d < obs.length → hitN path u v obs c d = false)) (fun s13 _ => (path.length - 1) - (intOf s13).toNat)
   case atStart => exact ⟨0, Nat.zero_le _, rfl, hs, (fun c d h => absurd h (Nat.not_lt_zero c))⟩
   case round =>
    clear hs
    obtain ⟨i, Ce, rfl, hs, HI⟩ := hrel
    obtain ⟨Bn, Bw⟩ : ∃ x, x = wr := ⟨_, rfl⟩
    subst Bw
    replace HI := Lib.hid HI
    by_cases q10 : (i : Int) + 1 < (path.length : Int)
    ·have q10d : ((i : Int) + 1 < (path.length : Int)) = True := eq_true (by omega)
     go_wp2
     go_loopw [14] (fun s14 wq => ∃ b : Nat, b ≤ obs.length ∧ s14 = .int .i64 b ∧ Below w.heap.size w wq ∧ (∀ d, d < b → hitN path u v obs i d = false)) (fun s14 _ => obs.length - (intOf s14).toNat)
     case atStart => exact ⟨0, Nat.zero_le _, rfl, hs, (fun d h => absurd h (Nat.not_lt_zero d))⟩
     case round =>
      clear hs
      obtain ⟨b, Ce, rfl, hs, HK⟩ := hrel
      obtain ⟨Ba, Bw⟩ : ∃ x, x = wr := ⟨_, rfl⟩
      subst Bw
      replace HK := Lib.hid HK
      by_cases q11 : b < obs.length
      ·have Cr : ((b : Int) < (obs.length : Int)) = True := eq_true (by omega)
       have hipd : (i < path.length) = True := eq_true (by omega)
       have hiqd : (i + 1 < path.length) = True := eq_true (by omega)
       go_upto_region 19 with fail
       obtain ⟨Bc, Bd, Co⟩ := rowIP_at (RowsI.mono IP.kept HL.out hs) (show i < path.length by omega)
       obtain ⟨B2, B9⟩ : ∃ z : Pt, z = ptZ path i := ⟨_, rfl⟩
       rw [← B9] at Bc Bd
       have Ci : WP 1048576 B2 := by rw [B9]; exact (rt_wp (Bi.out i (by omega)))
       replace B9 := Lib.hid B9
       have SW13a := IntWalk.i64_in ((i : Int) + 1) (by omega)
       have SW13b : (0 : Int) ≤ (i : Int) + 1 := by omega
       have SW13c : ((i : Int) + 1).toNat = (i + 1) := by omega
       have SW13d : (i : Int) + 1 < (path.length : Int) := by omega
       obtain ⟨Be, Bf, Cp⟩ := rowIP_at (RowsI.mono IP.kept HL.out hs) (show (i + 1) < path.length by omega)
       obtain ⟨B3, B7⟩ : ∃ z : Pt, z = ptZ path (i + 1) := ⟨_, rfl⟩
       rw [← B7] at Be Bf
       have Cj : WP 1048576 B3 := by rw [B7]; exact (rt_wp (Bi.out (i + 1) (by omega)))
       replace B7 := Lib.hid B7
       obtain ⟨ob, oo, oc, Bv, -, -⟩ := rowI_open HO.out (by omega)
       obtain ⟨rfl, rfl⟩ := sliceE Bv
       clear Bv
       obtain ⟨B5, B6, Bo, Bp, Cq⟩ := rowIE_at (RowsI.mono IE.kept HO.out hs) (show b < obs.length by omega)
       obtain ⟨B4, B8⟩ : ∃ z : Pt, z = (bxZ obs b).1 := ⟨_, rfl⟩
       obtain ⟨Bj, Bt⟩ : ∃ z : Pt, z = (bxZ obs b).2 := ⟨_, rfl⟩
       rw [show (obs.getD b ((0, 0), (0, 0))).1.1 = B4.1 from by rw [B8]; rfl] at B5
       rw [show (obs.getD b ((0, 0), (0, 0))).1.2 = B4.2 from by rw [B8]; rfl] at B6
       rw [show (obs.getD b ((0, 0), (0, 0))).2.1 = Bj.1 from by rw [Bt]; rfl] at Bo
       rw [show (obs.getD b ((0, 0), (0, 0))).2.2 = Bj.2 from by rw [Bt]; rfl] at Bp
       replace B8 := Lib.hid B8
       replace Bt := Lib.hid Bt
       have Ck : WP 1048576 B4 := by rw [B8.out]; exact (Cl.out _ (bxZ_mem (by omega))).1
       have Cv : WP 1048576 Bj := by rw [Bt.out]; exact (Cl.out _ (bxZ_mem (by omega))).2
       obtain ⟨Cm, Bk⟩ : ∃ zz : Bool, zz = hitB B2 B3 u v (B4, Bj) := ⟨_, rfl⟩
       replace Bk := Lib.hid Bk
       refine U_region (S := fun w' => w'.cell? ⟨pb, po + i * 2, none⟩ = some (.int .i64 B2.1) ∧ w'.cell? ⟨pb, po + i * 2 + 1, none⟩ = some (.int .i64 B2.2) ∧ w'.cell? ⟨pb, po + (i + 1) * 2, none⟩ = some (.int .i64 B3.1) ∧ w'.cell? ⟨pb, po + (i + 1) * 2 + 1, none⟩ = some (.int .i64 B3.2) ∧ w'.cell? ⟨ob, oo + b * 4, none⟩ = some (.int .i64 B4.1) ∧ w'.cell? ⟨ob, oo + b * 4 + 1, none⟩ = some (.int .i64 B4.2) ∧ w'.cell? ⟨ob, oo + b * 4 + 2, none⟩ = some (.int .i64 Bj.1) ∧ w'.cell? ⟨ob, oo + b * 4 + 3, none⟩ = some (.int .i64 Bj.2)) (by kernel_rfl) 16 ?_
       refine AnyU.abs ?_
       intro C2 hW
       have hb : Below Ba.heap.size Ba C2 := by rw [hW]; exact bDrew _
       replace hs := bStep hs hb
       replace Bc := cellK Bc hb
       replace Bd := cellK Bd hb
       replace Be := cellK Be hb
       replace Bf := cellK Bf hb
       replace B5 := cellK B5 hb
       replace B6 := cellK B6 hb
       replace Bo := cellK Bo hb
       replace Bp := cellK Bp hb
       clear hb hW
       have hH := (show C2.cell? ⟨pb, po + i * 2, none⟩ = some (.int .i64 B2.1) ∧ C2.cell? ⟨pb, po + i * 2 + 1, none⟩ = some (.int .i64 B2.2) ∧ C2.cell? ⟨pb, po + (i + 1) * 2, none⟩ = some (.int .i64 B3.1) ∧ C2.cell? ⟨pb, po + (i + 1) * 2 + 1, none⟩ = some (.int .i64 B3.2) ∧ C2.cell? ⟨ob, oo + b * 4, none⟩ = some (.int .i64 B4.1) ∧ C2.cell? ⟨ob, oo + b * 4 + 1, none⟩ = some (.int .i64 B4.2) ∧ C2.cell? ⟨ob, oo + b * 4 + 2, none⟩ = some (.int .i64 Bj.1) ∧ C2.cell? ⟨ob, oo + b * 4 + 3, none⟩ = some (.int .i64 Bj.2) from ⟨Bc, Bd, Be, Bf, B5, B6, Bo, Bp⟩)
       refine U_tq 0 67 hH ?_
       simp only [LY]
       refine U_tq 1 68 hH ?_
       simp only [LY]
       refine U_tq 2 69 hH ?_
       simp only [LY]
       refine U_tq 3 70 hH ?_
       simp only [LY]
       refine U_tq 4 71 hH ?_
       simp only [LY]
       refine U_tq 5 72 hH ?_
       simp only [LY]
       refine U_tq 6 73 hH ?_
       simp only [LY]
       refine U_tq 7 74 hH ?_
       simp only [LY]
       refine U_tq 8 75 hH ?_
       simp only [LY]
       refine U_tq 9 76 hH ?_
       simp only [LY]
       refine U_tq 10 77 hH ?_
       simp only [LY]
       refine U_tq 11 78 hH ?_
       simp only [LY]
       refine U_tq 12 79 hH ?_
       simp only [LY]
       refine U_tq 13 80 hH ?_
       simp only [LY]
       refine U_tq 14 81 hH ?_
       simp only [LY]
       clear hH
       refine U_on 15 fun K hK => ?_
       go_simp
       (with_reducible refine (r2_runs B2 B3 B4 Bj u v _ Ci Cj Ck Cv WU.out WV.out).mono ?_)
       rintro e C5 ⟨rfl, hb⟩
       replace hs := bStep hs hb
       replace Bc := cellK Bc hb
       replace Bd := cellK Bd hb
       replace Be := cellK Be hb
       replace Bf := cellK Bf hb
       replace B5 := cellK B5 hb
       replace B6 := cellK B6 hb
       replace Bo := cellK Bo hb
       replace Bp := cellK Bp hb
       clear hb
       rw [← Bk.out]
       try go_wp2_with fail
       refine hK.out _ _ ⟨Bc, Bd, Be, Bf, B5, B6, Bo, Bp⟩ (fun hH => ?_)
       clear hK K
       try simp only [LY]
       clear hH
       refine U_endN (by kernel_rfl) ?_
       clear Bc Bd Be Bf B5 B6 Bo Bp
       by_cases q17 : hitB B2 B3 u v (B4, Bj) = true
       ·obtain rfl : Cm = true := by rw [Bk.out]; exact q17
        have By := Lib.hid q17
        clear q17
        have B0 := Lib.hid (show ri = (i : Int) ∧ rk = (b : Int) ∧ swE path u v obs = 0 from (fun h => ⟨h.1, h.2, C1.out⟩) (sw_6 HG.out C1.out (by omega) (by omega) (show hitN path u v obs i b = true from by show hitB (ptZ path i) (ptZ path (i + 1)) u v (bxZ obs b) = true; rw [show ptZ path i = B2 from B9.out.symm, show ptZ path (i + 1) = B3 from B7.out.symm, show bxZ obs b = (B4, Bj) from by rw [B8.out, Bt.out]]; exact By.out) HI.out HK.out))
        go_wp2
        clear Co Cp Cq
        go_ret3
        exact ⟨by rw [B0.out.1, B0.out.2.1, B0.out.2.2]; rfl, hs⟩
       obtain rfl : Cm = false := by rw [Bk.out]; simpa using q17
       have By := Lib.hid q17
       clear q17
       go_wp2
       go_roundw
       case rel => exact ⟨b + 1, by omega, by go_num, hs, (fun d h => (Nat.lt_or_eq_of_le (Nat.le_of_lt_succ h)).elim (fun e => HK.out d e) (fun e => by rw [e]; exact (show hitN path u v obs i b = false from by show hitB (ptZ path i) (ptZ path (i + 1)) u v (bxZ obs b) = false; rw [show ptZ path i = B2 from B9.out.symm, show ptZ path (i + 1) = B3 from B7.out.symm, show bxZ obs b = (B4, Bj) from by rw [B8.out, Bt.out]]; exact Bool.eq_false_iff.2 By.out)))⟩
       all_goals first | (simp [intOf]; done) | (simp [intOf]; omega)
      have Cr : ((b : Int) < (obs.length : Int)) = False := eq_false (by omega)
      go_wp2
      go_roundw
      case rel => exact ⟨i + 1, by omega, by go_num, hs, (fun c d h hd => (Nat.lt_or_eq_of_le (Nat.le_of_lt_succ h)).elim (fun e => HI.out c d e hd) (fun e => by rw [e]; exact HK.out d (by omega)))⟩
      all_goals first | (simp [intOf]; done) | (simp [intOf]; omega)
    have q10d : ((i : Int) + 1 < (path.length : Int)) = False := eq_false (by omega)
    have B0 := Lib.hid (show ri = -1 ∧ rk = -1 ∧ swE path u v obs = 0 from (fun h => ⟨h.1, h.2, C1.out⟩) (sw_7 HG.out C1.out (fun c d hc hd => HI.out c d (by omega) hd)))
    go_wp2
    go_ret3
    exact ⟨by rw [B0.out.1, B0.out.2.1, B0.out.2.2]; rfl, hs⟩
  have q9b : (Bq == 0) = false := beq_eq_false_iff_ne.2 (by omega)
  have q9n : (Bq != 0) = true := bne_iff_ne.2 (by omega)
  have Cg := Lib.hid q9
  clear q9
  have B0 := Lib.hid (show ri = 0 ∧ rk = 0 ∧ swE path u v obs = Bq from (by have h := sw_5 HG.out (by omega) Bi.out (by omega) (show bxsE obs ≠ 0 from by rw [← Bh.out]; first | exact Cg.out | omega); rw [← Bh.out] at h; exact h))
  go_wp2
  go_ret3
  exact ⟨by rw [B0.out.1, B0.out.2.1, B0.out.2.2]; rfl, hs⟩
end Go.Proofs.YtbnomdlojmgigaaGreat
