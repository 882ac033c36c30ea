/-
  Reference 07: Corrected.
-/
import Derived.Test.YtkfekkhhfpkfaaaGreatPkRVQ
import Derived.Test.YtkfekkhhfpkfaaaGreatPkTrQ
import Derived.Test.YtkfekkhhfpkfaaaGreatPkCorQ
import Derived.Test.YtkfekkhhfpkfaaaGreatPkSpanQ
import Derived.Test.YtkfekkhhfpkfaaaGreatPkHeld3Q
set_option linter.unusedSimpArgs false
set_option linter.unusedVariables false
set_option maxRecDepth 100000
set_option maxHeartbeats 16000000
namespace Go.Proofs.YtkfekkhhfpkfaaaGreat
open Go.RowKit Dg
attribute [local go_sem ↓] Go.wp_at_zero Go.wp_at_succ
theorem r7_Corrected_err1 (ao C5 : Option Addr) (Bs rc : Nat) (ys : List Nat) (T : List Stp) (err : Int) (w : World) (hT : ∀ w' : World, Below w.heap.size w w' → Calls Tryz.prog 69 #[.slice ao ys.length Bs] w' (RetV w' (.int .i64 err))) (hne : ¬ err = 0) :
  Calls Tryz.prog 30 #[.slice ao ys.length Bs, .slice C5 T.length rc] w (Ret2 (fun _ v => v = .slice none 0 0) (fun _ v => v = .int .i64 err) w) := by
 have hs := Below.refl w.heap.size w
 have De := Lib.hid hT
 clear hT
 have HNE := Lib.hid hne
 clear hne
 go_enter Tryz.func30, Tryz.ntmps30
 go_wp2_with fail
 with_reducible refine (De.out _ hs).mono ?_
 rintro e w1 ⟨rfl, hb⟩
 replace hs := bStep hs hb
 clear hb
 have q1 : ¬ (err = 0) := HNE.out
 have q1b : (err == 0) = false := beq_eq_false_iff_ne.2 (by omega)
 have q1n : (err != 0) = true := bne_iff_ne.2 (by omega)
 have q1H := Lib.hid q1
 clear q1
 go_wp2
 go_ret2
 exact ⟨_, _, rfl, rfl, rfl, hs⟩
theorem r7_Corrected_err2 (ao C5 : Option Addr) (Bs rc : Nat) (ys : List Nat) (T : List Stp) (err : Int) (w : World) (hT : ∀ w' : World, Below w.heap.size w w' → Calls Tryz.prog 69 #[.slice ao ys.length Bs] w' (RetV w' (.int .i64 0))) (hB : ∀ w' : World, Below w.heap.size w w' → Calls Tryz.prog 86 #[.slice C5 T.length rc] w' (RetV w' (.int .i64 err))) (hne : ¬ err = 0) :
  Calls Tryz.prog 30 #[.slice ao ys.length Bs, .slice C5 T.length rc] w (Ret2 (fun _ v => v = .slice none 0 0) (fun _ v => v = .int .i64 err) w) := by
 have hs := Below.refl w.heap.size w
 have De := Lib.hid hT
 clear hT
 have E4 := Lib.hid hB
 clear hB
 have HNE := Lib.hid hne
 clear hne
 go_enter Tryz.func30, Tryz.ntmps30
 go_wp2_with fail
 with_reducible refine (De.out _ hs).mono ?_
 rintro e w1 ⟨rfl, hb⟩
 replace hs := bStep hs hb
 clear hb
 go_wp2_with fail
 with_reducible refine (E4.out _ hs).mono ?_
 rintro e w2 ⟨rfl, hb⟩
 replace hs := bStep hs hb
 clear hb
 have q1 : ¬ (err = 0) := HNE.out
 have q1b : (err == 0) = false := beq_eq_false_iff_ne.2 (by omega)
 have q1n : (err != 0) = true := bne_iff_ne.2 (by omega)
 have q1H := Lib.hid q1
 clear q1
 go_wp2
 go_ret2
 exact ⟨_, _, rfl, rfl, rfl, hs⟩
theorem r7_Corrected_nil (ao C5 : Option Addr) (Bs rc : Nat) (ys : List Nat) (T : List Stp) (w : World) (hT : ∀ w' : World, Below w.heap.size w w' → Calls Tryz.prog 69 #[.slice ao ys.length Bs] w' (RetV w' (.int .i64 0))) (hB : ∀ w' : World, Below w.heap.size w w' → Calls Tryz.prog 86 #[.slice C5 T.length rc] w' (RetV w' (.int .i64 0))) (h0 : ys.length = 0) :
  Calls Tryz.prog 30 #[.slice ao ys.length Bs, .slice C5 T.length rc] w (Ret2 (fun w v => Rows 3 38 RC w v (corK T (yQ ys) ys.length)) (fun _ v => v = .int .i64 0) w) := by
 have hs := Below.refl w.heap.size w
 have De := Lib.hid hT
 clear hT
 have E4 := Lib.hid hB
 clear hB
 have h00 : ys.length ≤ 0 := by omega
 clear h0
 obtain ⟨j0, hj, Cs, Ec, Ed⟩ := info_parts numR_info
 go_enter Tryz.func30, Tryz.ntmps30
 go_wp2_with fail
 with_reducible refine (De.out _ hs).mono ?_
 rintro e w1 ⟨rfl, hb⟩
 replace hs := bStep hs hb
 clear hb
 go_wp2_with fail
 with_reducible refine (E4.out _ hs).mono ?_
 rintro e w2 ⟨rfl, hb⟩
 replace hs := bStep hs hb
 clear hb
 go_wp2
 go_loopw [8, 9] (fun s8 s9 wq => ∃ k : Nat, k ≤ ys.length ∧ s9 = .int .i64 k ∧ Below w.heap.size w wq ∧ OwnR w.heap.size 38 3 RC wq s8 (corK T (yQ ys) k)) (fun s8 s9 _ => ys.length - (intOf s9).toNat)
 case atStart => exact ⟨0, Nat.zero_le _, rfl, hs, OwnR.nil _ _ _ _ _⟩
 case round =>
  clear hs
  obtain ⟨k, k_le, rfl, hs, B5⟩ := hrel
  have k0 : k = 0 := by omega
  have HO := Lib.hid B5.rows
  obtain ⟨oa, oc, rfl, _, _, _⟩ := HO.out.slice
  have HO2 := Lib.hid B5
  clear B5
  have q1 : ¬ (k < ys.length) := by omega
  have q1d : ((k : Int) < (ys.length : Int)) = False := eq_false (by omega)
  go_wp2
  go_ret2
  exact ⟨_, _, rfl, (by rw [show ys.length = k by omega]; exact HO.out), rfl, hs⟩
theorem r7_Corrected_ok (bl ol Bs rb ro rc : Nat) (ys : List Nat) (T : List Stp) (w : World) (hT : ∀ w' : World, Below w.heap.size w w' → Calls Tryz.prog 69 #[.slice (some ⟨bl, ol, none⟩) ys.length Bs] w' (RetV w' (.int .i64 0))) (hB : ∀ w' : World, Below w.heap.size w w' → Calls Tryz.prog 86 #[.slice (some ⟨rb, ro, none⟩) T.length rc] w' (RetV w' (.int .i64 0))) (hl : Rows 6 155 (C2 RC) w (.slice (some ⟨rb, ro, none⟩) T.length rc) T) (hy : RowsI 1 F32 w (.slice (some ⟨bl, ol, none⟩) ys.length Bs) (ys.map fun x => (x, flQ (cvF x)))) (hz : TabSz T) (hte : tabE T = 0) (E6 : 1 ≤ T.length) (h0T : 0 < T.length) (h12 : T.length ≤ 12) (hbl : bl < w.heap.size) (Eb : ∀ i, i < ys.length → f32E (nthN ys i) ≠ 255) (h256 : ys.length ≤ 256) (hrb : rb < w.heap.size) :
  Calls Tryz.prog 30 #[.slice (some ⟨bl, ol, none⟩) ys.length Bs, .slice (some ⟨rb, ro, none⟩) T.length rc] w (Ret2 (fun w v => Rows 3 38 RC w v (corK T (yQ ys) ys.length)) (fun _ v => v = .int .i64 0) w) := by
 have hs := Below.refl w.heap.size w
 have De := Lib.hid hT
 clear hT
 have E4 := Lib.hid hB
 clear hB
 obtain ⟨j0, hj, Cs, Ec, Ed⟩ := info_parts numR_info
 have HL := Lib.hid hl
 have HY := Lib.hid hy
 have HZ := Lib.hid hz
 have HAS := Lib.hid (ascB_asc _ (tabE_ok hte).2.2)
 have HTE := Lib.hid hte
 have Dq := Lib.hid Eb
 clear hl hy hz hte Eb
 go_enter Tryz.func30, Tryz.ntmps30
 go_wp2_with fail
 with_reducible refine (De.out _ hs).mono ?_
 rintro e w1 ⟨rfl, hb⟩
 replace hs := bStep hs hb
 clear hb
 go_wp2_with fail
 with_reducible refine (E4.out _ hs).mono ?_
 rintro e w2 ⟨rfl, hb⟩
 replace hs := bStep hs hb
 clear hb
 go_wp2
 go_loopw [8, 9] (fun s8 s9 wq => ∃ k : Nat, k ≤ ys.length ∧ s9 = .int .i64 k ∧ Below w.heap.size w wq ∧ OwnR w.heap.size 38 3 RC wq s8 (corK T (yQ ys) k)) (fun s8 s9 _ => ys.length - (intOf s9).toNat)
 case atStart => exact ⟨0, Nat.zero_le _, rfl, hs, OwnR.nil _ _ _ _ _⟩
 case round =>
  clear hs
  obtain ⟨k, k_le, rfl, hs, B5⟩ := hrel
  by_cases q1 : k < ys.length
  ·have q1d : ((k : Int) < (ys.length : Int)) = True := eq_true (by omega)
   go_wp2_with fail
   with_reducible refine (r_Int_calls ((k : Int)) _ (by omega) (by omega)).mono ?_
   rintro e Bc ⟨_, rfl, h2, hb⟩
   obtain ⟨Cc, C9, Cb, Ca, C6, C8, C7, rfl⟩ := h2.shape
   replace hs := bStep hs hb
   replace B5 := B5.mono RC.kept hb
   clear hb
   go_wp2_with fail
   refine Calls.abs ?_
   intro w24 hW
   have hG : Gr [] Bc w24 := by rw [hW]; exact (Gr.refl _ _).alloc
   have C4 : Below w.heap.size Bc w24 := hG.below0 hs.size
   have hk : KeepD Bc w24 := hG.keep True.intro
   have sz_w24 : w.heap.size ≤ Bc.heap.size := hs.size
   have B4 : Bx w24 (Bc.heap.size) 38 #[.bool Cc, .slice C9 Cb Ca, .slice C6 C8 C7] := by rw [hW]; exact (Bx.new0 _ _ _)
   have Be := B5.ap (g := Bc.heap.size) (by omega)
   replace hs := hs.trans C4
   replace h2 := h2.keep hk
   replace B5 := B5.mono RC.kept (hG.below0 (Nat.le_refl _))
   clear hW hG hk C4
   have hz_w24 := B4.lt
   with_reducible refine (r7_Value_ok _ T _ (((k : Int) : Rat)) _ _ _ (HL.out.mono (C2.kept RC.kept) hs) E6 HZ.out h2 (SzQ.mono (szQ_int (by omega)) (by decide)) HTE.out HAS.out (valQ_pair T _)).mono ?_
   rintro e B8 ⟨_, _, rfl, h3, rfl, hb⟩
   obtain ⟨Dv, Ds, Du, Dt, Do, Dr, Dp, rfl⟩ := h3.shape
   replace hs := bStep hs hb
   replace B4 := B4.mono hb
   replace h2 := h2.mono hb
   replace B5 := B5.mono RC.kept hb
   clear hb
   go_upto_region 13 with fail
   refine Code.abs ?_
   intro Dn hW
   have hG : Gr [] B8 Dn := by rw [hW]; exact (Gr.refl _ _).alloc
   have C4 : Below w.heap.size B8 Dn := hG.below0 hs.size
   have hk : KeepD B8 Dn := hG.keep True.intro
   have sz_w26 : w.heap.size ≤ B8.heap.size := hs.size
   have Jc := B4.lt
   have B0 : Bx Dn (B8.heap.size) 38 #[.bool Dv, .slice Ds Du Dt, .slice Do Dr Dp] := by rw [hW]; exact (Bx.new0 _ _ _)
   have B7 := B5.ap (g := B8.heap.size) (by omega)
   replace hs := hs.trans C4
   replace B4 := hG.bx B4 notMem0
   replace h2 := h2.keep hk
   replace h3 := h3.keep hk
   replace B5 := B5.mono RC.kept (hG.below0 (Nat.le_refl _))
   clear hW hG hk C4
   have hz_w26 := B0.lt
   obtain ⟨Ez, Et, J3, Ew, Eh, Eq, Ek, _, _, _, _, _, _, _, C0, C1, C3, -, -, -, Bw, -, le4⟩ := rowSR_at (HL.out.mono (C2.kept RC.kept) hs) (show 0 < T.length by omega)
   simp only [Nat.zero_mul, Nat.add_zero] at C0 C1 C3
   obtain ⟨Ee, Df⟩ : ∃ s : Int, s = sgQ ((((k : Int) : Rat)) - (taQ T 0)) := ⟨_, rfl⟩
   replace Df := Lib.hid Df
   refine U_region (S := fun w' => w'.cell? ⟨Bc.heap.size, 0, none⟩ = some (.bool Cc) ∧ w'.cell? ⟨Bc.heap.size, 1, none⟩ = some (.slice C9 Cb Ca) ∧ w'.cell? ⟨Bc.heap.size, 2, none⟩ = some (.slice C6 C8 C7) ∧ w'.cell? ⟨rb, ro, none⟩ = some (.bool Ez) ∧ w'.cell? ⟨rb, ro + 1, none⟩ = some (.slice Et J3 Ew) ∧ w'.cell? ⟨rb, ro + 2, none⟩ = some (.slice Eh Eq Ek)) (by kernel_rfl) 7 ?_
   refine AnyU.abs ?_
   intro Cd hW
   have hb : Below Dn.heap.size Dn Cd := by rw [hW]; exact bDrew _
   replace hs := bStep hs hb
   replace B4 := B4.mono hb
   replace B0 := B0.mono hb
   replace h2 := h2.mono hb
   replace h3 := h3.mono hb
   replace Bw := Bw.mono hb
   replace B5 := B5.mono RC.kept hb
   replace C0 := cellK C0 hb
   replace C1 := cellK C1 hb
   replace C3 := cellK C3 hb
   clear hb hW
   have Bg := B4.a0
   have Bh := B4.a1
   have Bi := B4.a2
   have hH := (show Cd.cell? ⟨Bc.heap.size, 0, none⟩ = some (.bool Cc) ∧ Cd.cell? ⟨Bc.heap.size, 1, none⟩ = some (.slice C9 Cb Ca) ∧ Cd.cell? ⟨Bc.heap.size, 2, none⟩ = some (.slice C6 C8 C7) ∧ Cd.cell? ⟨rb, ro, none⟩ = some (.bool Ez) ∧ Cd.cell? ⟨rb, ro + 1, none⟩ = some (.slice Et J3 Ew) ∧ Cd.cell? ⟨rb, ro + 2, none⟩ = some (.slice Eh Eq Ek) from ⟨Bg, Bh, Bi, C0, C1, C3⟩)
   refine U_tk 0 37 ?_ ?_ hH ?_
   rotate_left
   ·(intro w B6; (try dsimp only at B6); go_simp; try with_reducible rfl)
   simp only [LY]
   refine U_tk 1 38 ?_ ?_ hH ?_
   rotate_left
   ·(intro w B6; (try dsimp only at B6); go_simp; try with_reducible rfl)
   simp only [LY]
   refine U_tk 2 39 ?_ ?_ hH ?_
   rotate_left
   ·(intro w B6; (try dsimp only at B6); go_simp; try with_reducible rfl)
   simp only [LY]
   refine U_tk 3 40 ?_ ?_ hH ?_
   rotate_left
   ·(intro w B6; (try dsimp only at B6); go_simp; try with_reducible rfl)
   simp only [LY]
   refine U_tk 4 41 ?_ ?_ hH ?_
   rotate_left
   ·(intro w B6; (try dsimp only at B6); go_simp; try with_reducible rfl)
   simp only [LY]
   clear hH
   refine U_one (i := 5) (by kernel_rfl) rfl (fun K hK => ?_)
   go_simp
   (with_reducible refine (rCmp h2 Bw (SzQ.fit (szQ_int (by omega))) (SzQ.fit ((HZ.out 0 (by omega)).1))).mono ?_)
   rintro e Cu ⟨rfl, hb⟩
   replace hs := bStep hs hb
   replace B4 := B4.mono hb
   replace B0 := B0.mono hb
   replace h2 := h2.mono hb
   replace h3 := h3.mono hb
   replace Bw := Bw.mono hb
   replace B5 := B5.mono RC.kept hb
   replace Bg := cellK Bg hb
   replace Bh := cellK Bh hb
   replace Bi := cellK Bi hb
   replace C0 := cellK C0 hb
   replace C1 := cellK C1 hb
   replace C3 := cellK C3 hb
   clear hb
   rw [← Df.out]
   try go_wp2_with fail
   refine hK.out _ _ ⟨Bg, Bh, Bi, C0, C1, C3⟩ (fun hH => ?_)
   clear hK K
   try simp only [LY]
   refine U_tk 6 43 ?_ ?_ hH ?_
   rotate_left
   ·(intro w B6; (try dsimp only at B6); go_simp; try with_reducible rfl)
   simp only [LY]
   clear hH
   refine U_endN (by kernel_rfl) ?_
   clear Bg Bh Bi C0 C1 C3
   by_cases q6 : ((k : Int) : Rat) < taQ T 0
   ·have q6_ : Ee < 0 := by have h := sq_lt (((k : Int) : Rat)) (taQ T 0); rw [← Df.out] at h; exact h.2 q6
    have E8 := Lib.hid q6
    clear q6
    have q6d : decide (Ee < 0) = true := decide_eq_true q6_
    obtain ⟨_, _, _, _, _, _, _, E2, E0, E3, E1, Dx, Dz, Dy, -, -, -, En, Eo, Ep, -, Bk, le7⟩ := rowSR_at (HL.out.mono (C2.kept RC.kept) hs) (show 0 < T.length by omega)
    simp only [Nat.zero_mul, Nat.add_zero] at En Eo Ep
    have B1 := B0.a0
    have B2 := B0.a1
    have B3 := B0.a2
    have Cw := B0.free
    have Cv := B0.lt
    go_upto_region 15 with fail
    clear B1 B2 B3 Cw Cv le4 le7 En Eo Ep
    refine Code.abs ?_
    intro Bt hW
    have hG : Gr [B8.heap.size] Cu Bt := by rw [hW]; exact (Gr.refl _ _).set.set.set
    have hsz := hs.size
    have Cy := B0.lt
    have C4 : Below w.heap.size Cu Bt := hG.below1 hs.size (by first | omega | assumption)
    have hk : KeepD Cu Bt := hG.keep ⟨⟨_, B0.ty, by decide⟩, True.intro⟩
    have Br : Bx Bt (B8.heap.size) 38 #[.bool E2, .slice E0 E3 E1, .slice Dx Dz Dy] := by rw [hW]; exact B0.set3
    replace hs := hs.trans C4
    replace B4 := hG.bx B4 (notMem1 (by omega))
    replace B0 := Br
    clear Br
    replace h2 := h2.keep hk
    replace h3 := h3.keep hk
    replace Bw := Bw.keep hk
    replace Bk := Bk.keep hk
    replace B5 := B5.gr RC.kept hG (B7).one hk
    clear hW hG hk C4 hsz Cy
    clear h3 Bw
    have SW8a := IntWalk.i64_in ((T.length : Int) - 1) (by omega)
    have SW8b : (0 : Int) ≤ (T.length : Int) - 1 := by omega
    have SW8c : ((T.length : Int) - 1).toNat = (T.length - 1) := by omega
    have SW8d : (T.length : Int) - 1 < (T.length : Int) := by omega
    have SW8e : (1 : Int) ≤ (T.length : Int) := by omega
    have SW8f : (T.length : Int) < (T.length : Int) + 1 := by omega
    obtain ⟨J1, Ev, J5, Ey, Ej, Es, Em, _, _, _, _, _, _, _, Ck, Cl, Cm, -, -, -, Cx, -, le9⟩ := rowSR_at (HL.out.mono (C2.kept RC.kept) hs) (show (T.length - 1) < T.length by omega)
    obtain ⟨J6, D6⟩ : ∃ s : Int, s = sgQ ((((k : Int) : Rat)) - (taQ T (T.length - 1))) := ⟨_, rfl⟩
    replace D6 := Lib.hid D6
    refine U_region (S := fun w' => w'.cell? ⟨Bc.heap.size, 0, none⟩ = some (.bool Cc) ∧ w'.cell? ⟨Bc.heap.size, 1, none⟩ = some (.slice C9 Cb Ca) ∧ w'.cell? ⟨Bc.heap.size, 2, none⟩ = some (.slice C6 C8 C7) ∧ w'.cell? ⟨rb, ro + (T.length - 1) * 6, none⟩ = some (.bool J1) ∧ w'.cell? ⟨rb, ro + (T.length - 1) * 6 + 1, none⟩ = some (.slice Ev J5 Ey) ∧ w'.cell? ⟨rb, ro + (T.length - 1) * 6 + 2, none⟩ = some (.slice Ej Es Em)) (by kernel_rfl) 10 ?_
    refine AnyU.abs ?_
    intro Bn hW
    have hb : Below Bt.heap.size Bt Bn := by rw [hW]; exact bDrew _
    replace hs := bStep hs hb
    replace B4 := B4.mono hb
    replace B0 := B0.mono hb
    replace h2 := h2.mono hb
    replace Bk := Bk.mono hb
    replace Cx := Cx.mono hb
    replace B5 := B5.mono RC.kept hb
    replace Ck := cellK Ck hb
    replace Cl := cellK Cl hb
    replace Cm := cellK Cm hb
    clear hb hW
    have Bg := B4.a0
    have Bh := B4.a1
    have Bi := B4.a2
    have hH := (show Bn.cell? ⟨Bc.heap.size, 0, none⟩ = some (.bool Cc) ∧ Bn.cell? ⟨Bc.heap.size, 1, none⟩ = some (.slice C9 Cb Ca) ∧ Bn.cell? ⟨Bc.heap.size, 2, none⟩ = some (.slice C6 C8 C7) ∧ Bn.cell? ⟨rb, ro + (T.length - 1) * 6, none⟩ = some (.bool J1) ∧ Bn.cell? ⟨rb, ro + (T.length - 1) * 6 + 1, none⟩ = some (.slice Ev J5 Ey) ∧ Bn.cell? ⟨rb, ro + (T.length - 1) * 6 + 2, none⟩ = some (.slice Ej Es Em) from ⟨Bg, Bh, Bi, Ck, Cl, Cm⟩)
    refine U_tk 0 48 ?_ ?_ hH ?_
    rotate_left
    ·(intro w B6; (try dsimp only at B6); go_simp; try with_reducible rfl)
    simp only [LY]
    refine U_tk 1 49 ?_ ?_ hH ?_
    rotate_left
    ·(intro w B6; (try dsimp only at B6); go_simp; try with_reducible rfl)
    simp only [LY]
    refine U_tk 2 50 ?_ ?_ hH ?_
    rotate_left
    ·(intro w B6; (try dsimp only at B6); go_simp; try with_reducible rfl)
    simp only [LY]
    refine U_tk 3 51 ?_ ?_ hH ?_
    rotate_left
    ·(intro w B6; (try dsimp only at B6); go_simp; try with_reducible rfl)
    simp only [LY]
    refine U_tk 4 52 ?_ ?_ hH ?_
    rotate_left
    ·(intro w B6; (try dsimp only at B6); go_simp; try with_reducible rfl)
    simp only [LY]
    refine U_tk 5 53 ?_ ?_ hH ?_
    rotate_left
    ·(intro w B6; (try dsimp only at B6); go_simp; try with_reducible rfl)
    simp only [LY]
    refine U_tk 6 54 ?_ ?_ hH ?_
    rotate_left
    ·(intro w B6; (try dsimp only at B6); go_simp; try with_reducible rfl)
    simp only [LY]
    refine U_tk 7 55 ?_ ?_ hH ?_
    rotate_left
    ·(intro w B6; (try dsimp only at B6); go_simp; try with_reducible rfl)
    simp only [LY]
    clear hH
    refine U_one (i := 8) (by kernel_rfl) rfl (fun K hK => ?_)
    go_simp
    (with_reducible refine (rCmp h2 Cx (SzQ.fit (szQ_int (by omega))) (SzQ.fit ((HZ.out (T.length - 1) (by omega)).1))).mono ?_)
    rintro e Bp ⟨rfl, hb⟩
    replace hs := bStep hs hb
    replace B4 := B4.mono hb
    replace B0 := B0.mono hb
    replace h2 := h2.mono hb
    replace Bk := Bk.mono hb
    replace Cx := Cx.mono hb
    replace B5 := B5.mono RC.kept hb
    replace Bg := cellK Bg hb
    replace Bh := cellK Bh hb
    replace Bi := cellK Bi hb
    replace Ck := cellK Ck hb
    replace Cl := cellK Cl hb
    replace Cm := cellK Cm hb
    clear hb
    rw [← D6.out]
    try go_wp2_with fail
    refine hK.out _ _ ⟨Bg, Bh, Bi, Ck, Cl, Cm⟩ (fun hH => ?_)
    clear hK K
    try simp only [LY]
    refine U_tk 9 57 ?_ ?_ hH ?_
    rotate_left
    ·(intro w B6; (try dsimp only at B6); go_simp; try with_reducible rfl)
    simp only [LY]
    clear hH
    refine U_endN (by kernel_rfl) ?_
    clear Bg Bh Bi Ck Cl Cm
    have q11 : ¬ (taQ T (T.length - 1) < ((k : Int) : Rat)) := (ta_ends HAS.out E6 E8.out)
    have q11_ : ¬ (0 < J6) := by have h := sq_gt (((k : Int) : Rat)) (taQ T (T.length - 1)); rw [← D6.out] at h; exact fun h1 => q11 (h.1 h1)
    have q11H := Lib.hid q11
    clear q11
    have q11d : decide (0 < J6) = false := decide_eq_false q11_
    go_upto_region 17 with fail
    clear le9
    clear Cx
    have J7 : k < ys.length := by omega
    have J8 : ((k : Int) : Int) < (ys.length : Int) := by omega
    have B9 := rowF_at (HY.out.mono F32.kept hs) (show k < ys.length by omega)
    refine U_region (S := fun w' => w'.cell? ⟨B8.heap.size, 0, none⟩ = some (.bool E2) ∧ w'.cell? ⟨B8.heap.size, 1, none⟩ = some (.slice E0 E3 E1) ∧ w'.cell? ⟨B8.heap.size, 2, none⟩ = some (.slice Dx Dz Dy) ∧ w'.cell? ⟨bl, ol + k, none⟩ = some (.float .f32 (nthN ys k))) (by kernel_rfl) 10 ?_
    refine AnyU.abs ?_
    intro Bq hW
    have hb : Below Bp.heap.size Bp Bq := by rw [hW]; exact bDrew _
    replace hs := bStep hs hb
    replace B4 := B4.mono hb
    replace B0 := B0.mono hb
    replace h2 := h2.mono hb
    replace Bk := Bk.mono hb
    replace B5 := B5.mono RC.kept hb
    replace B9 := cellK B9 hb
    clear hb hW
    have B1 := B0.a0
    have B2 := B0.a1
    have B3 := B0.a2
    have hH := (show Bq.cell? ⟨B8.heap.size, 0, none⟩ = some (.bool E2) ∧ Bq.cell? ⟨B8.heap.size, 1, none⟩ = some (.slice E0 E3 E1) ∧ Bq.cell? ⟨B8.heap.size, 2, none⟩ = some (.slice Dx Dz Dy) ∧ Bq.cell? ⟨bl, ol + k, none⟩ = some (.float .f32 (nthN ys k)) from ⟨B1, B2, B3, B9⟩)
    refine U_tt 0 ?_ ?_ hH ?_
    rotate_left
    ·(intro w B6; (try dsimp only at B6); go_simp; try with_reducible rfl)
    try simp only [LY]
    refine U_tt 1 ?_ ?_ hH ?_
    rotate_left
    ·(intro w B6; (try dsimp only at B6); go_simp; try with_reducible rfl)
    try simp only [LY]
    refine U_tt 2 ?_ ?_ hH ?_
    rotate_left
    ·(intro w B6; (try dsimp only at B6); go_simp; try with_reducible rfl)
    try simp only [LY]
    refine U_tt 3 ?_ ?_ hH ?_
    rotate_left
    ·(intro w B6; (try dsimp only at B6); go_simp; try with_reducible rfl)
    try simp only [LY]
    refine U_tt 4 ?_ ?_ hH ?_
    rotate_left
    ·(intro w B6; (try dsimp only at B6); go_simp; try with_reducible rfl)
    try simp only [LY]
    refine U_tt 6 ?_ ?_ hH ?_
    rotate_left
    ·(intro w B6; (try dsimp only at B6); go_simp; try with_reducible rfl)
    try simp only [LY]
    clear hH
    refine U_one (i := 5) (by kernel_rfl) rfl (fun K hK => ?_)
    go_simp
    (with_reducible refine (r7_exactY Dq.out (by omega) _).mono ?_)
    rintro e Ce ⟨_, rfl, Bj, hb⟩
    obtain ⟨Dm, Dj, Dl, Dk, Dc, Di, Dd, rfl⟩ := Bj.shape
    replace hs := bStep hs hb
    replace B4 := B4.mono hb
    replace B0 := B0.mono hb
    replace h2 := h2.mono hb
    replace Bk := Bk.mono hb
    replace B5 := B5.mono RC.kept hb
    replace B1 := cellK B1 hb
    replace B2 := cellK B2 hb
    replace B3 := cellK B3 hb
    replace B9 := cellK B9 hb
    clear hb
    try go_wp2_with fail
    refine hK.out _ _ ⟨B1, B2, B3, B9⟩ (fun hH => ?_)
    clear hK K
    try simp only [LY]
    clear hH
    refine U_one (i := 7) (by kernel_rfl) rfl (fun K hK => ?_)
    go_simp
    (with_reducible refine (rMul Bj Bk (SzQ.fit (atQ_sz Dq.out (show k < ys.length by omega))) (SzQ.fit ((HZ.out 0 (by omega)).2))).mono ?_)
    rintro e Bo ⟨_, rfl, Bv, hb⟩
    obtain ⟨Cr, Co, Cq, Cp, Cf, Cn, Cg, rfl⟩ := Bv.shape
    replace hs := bStep hs hb
    replace B4 := B4.mono hb
    replace B0 := B0.mono hb
    replace h2 := h2.mono hb
    replace Bk := Bk.mono hb
    replace Bj := Bj.mono hb
    replace B5 := B5.mono RC.kept hb
    replace B1 := cellK B1 hb
    replace B2 := cellK B2 hb
    replace B3 := cellK B3 hb
    replace B9 := cellK B9 hb
    clear hb
    try go_wp2_with fail
    refine hK.out _ _ ⟨B1, B2, B3, B9⟩ (fun hH => ?_)
    clear hK K
    try simp only [LY]
    clear hH
    refine U_one (i := 8) (by kernel_rfl) rfl (fun K hK => ?_)
    go_simp
    generalize hWn : (Bo.alloc (.cells #[.bool Cr, .slice Co Cq Cp, .slice Cf Cn Cg] 38)) = Dw
    have hb : Below Bo.heap.size Bo Dw := by rw [← hWn]; exact (Below.refl _ _).alloc (Nat.le_refl _) _
    have Bz : Bx Dw (Bo.heap.size) 38 #[.bool Cr, .slice Co Cq Cp, .slice Cf Cn Cg] := by rw [← hWn]; exact Bx.new _ _ _
    have E7 : Bc.heap.size ≠ Bo.heap.size := by have := B4.lt; omega
    have Ct : B8.heap.size ≠ Bo.heap.size := by have := B0.lt; omega
    have Eg : w.heap.size ≤ Bo.heap.size := hs.size
    replace hs := bStep hs hb
    replace B4 := B4.mono hb
    replace B0 := B0.mono hb
    replace h2 := h2.mono hb
    replace Bk := Bk.mono hb
    replace Bj := Bj.mono hb
    replace Bv := Bv.mono hb
    replace B5 := B5.mono RC.kept hb
    replace B1 := cellK B1 hb
    replace B2 := cellK B2 hb
    replace B3 := cellK B3 hb
    replace B9 := cellK B9 hb
    clear hb hWn
    refine hK.out _ _ ⟨B1, B2, B3, B9⟩ (fun hH => ?_)
    clear hK K
    try simp only [LY]
    clear hH
    refine U_one (i := 9) (by kernel_rfl) rfl (fun K hK => ?_)
    obtain ⟨css, D1, D2, D3, Bd⟩ := B5
    simp only [List.getElem_toArray, List.getElem_cons_succ, List.getElem_cons_zero]
    rw [if_pos (by rfl)]
    refine wp_append_lies _ _ _ _ (by rfl) w.heap.size 38 j0 _ 3 56 Tryz.underlying26 hj Cs Ec Ed (by rfl) (by omega) _ _ css.flatten (by rfl) Bd ⟨Bo.heap.size, 0, none⟩ 1 1 [.bool Cr, .slice Co Cq Cp, .slice Cf Cn Cg] (by rfl) (by rfl) Bz.news ?_ (by omega) ?_ ?_ ?_ _ rfl ?_
    ·intro u hu; simp only [List.mem_cons, List.mem_nil_iff, or_false] at hu; rcases hu with rfl | rfl | rfl <;> rfl
    ·unfold maxLen; (have := corK_len T (yQ ys) k; omega)
    ·(have := corK_len T (yQ ys) k; omega)
    ·exact hs.size
    intro J2 E5 w36 Bu Bb D0 hlt
    have hk := KeepD.owns Bd Bb (by decide)
    have ho := owns_onlyT Bd Bb
    replace B9 := Bb.cell B9 (fun e => by have := (Bd.lt _ e.symm).1; simp only at this; omega)
    replace hs := hs.grown Bb hs.size (fun k hk => (Bd.lt k hk).1)
    replace B5 := OwnR.push RC.kept D1 D2 D3 (x := (atQ (yQ ys) k) * vaQ T 0) rfl ⟨_, _, _, rfl, Bv⟩ Bu hk
    have Bf := Be.app D0 B4.lt
    replace B4 := B4.grown Bb Be.ne
    replace Be := Bf
    clear Bf
    have Ba := B7.app D0 B0.lt
    replace B0 := B0.grown Bb B7.ne
    replace B7 := Ba
    clear Ba
    replace h2 := h2.keep hk
    replace Bk := Bk.keep hk
    replace Bj := Bj.keep hk
    replace Bv := Bv.keep hk
    replace B1 := B0.at 0 rfl
    replace B2 := B0.at 1 rfl
    replace B3 := B0.at 2 rfl
    clear hk ho D1 D2 D3 Bd Bu Bb Bz
    refine hK.out _ _ ⟨B1, B2, B3, B9⟩ (fun hH => ?_)
    clear hK K
    try simp only [LY]
    clear hH
    refine U_last (by kernel_rfl) rfl (by kernel_rfl) (fun K hK => ?_)
    go_simp
    refine hK.out _ _ ?_
    clear hK K
    intro wl hW
    rw [hW]
    clear hW wl
    try simp only [LY]
    clear B1 B2 B3 B9
    go_wp2
    go_roundw
    case rel => exact ⟨k + 1, by omega, by go_num, hs, (by rw [← corK_step (facQ_lo E8.out)]; exact B5)⟩
    all_goals first | (simp [intOf]; done) | (simp [intOf]; omega)
   ·have q6_ : ¬ (Ee < 0) := by have h := sq_lt (((k : Int) : Rat)) (taQ T 0); rw [← Df.out] at h; exact fun h1 => q6 (h.1 h1)
    have E8 := Lib.hid q6
    clear q6
    have q6d : decide (Ee < 0) = false := decide_eq_false q6_
    go_upto_region 15 with fail
    clear le4
    clear Bw
    have SW7a := IntWalk.i64_in ((T.length : Int) - 1) (by omega)
    have SW7b : (0 : Int) ≤ (T.length : Int) - 1 := by omega
    have SW7c : ((T.length : Int) - 1).toNat = (T.length - 1) := by omega
    have SW7d : (T.length : Int) - 1 < (T.length : Int) := by omega
    have SW7e : (1 : Int) ≤ (T.length : Int) := by omega
    have SW7f : (T.length : Int) < (T.length : Int) + 1 := by omega
    obtain ⟨J0, Eu, J4, Ex, Ei, Er, El, _, _, _, _, _, _, _, Ch, Ci, Cj, -, -, -, By, -, le8⟩ := rowSR_at (HL.out.mono (C2.kept RC.kept) hs) (show (T.length - 1) < T.length by omega)
    obtain ⟨Ef, Dh⟩ : ∃ s : Int, s = sgQ ((((k : Int) : Rat)) - (taQ T (T.length - 1))) := ⟨_, rfl⟩
    replace Dh := Lib.hid Dh
    refine U_region (S := fun w' => w'.cell? ⟨Bc.heap.size, 0, none⟩ = some (.bool Cc) ∧ w'.cell? ⟨Bc.heap.size, 1, none⟩ = some (.slice C9 Cb Ca) ∧ w'.cell? ⟨Bc.heap.size, 2, none⟩ = some (.slice C6 C8 C7) ∧ w'.cell? ⟨rb, ro + (T.length - 1) * 6, none⟩ = some (.bool J0) ∧ w'.cell? ⟨rb, ro + (T.length - 1) * 6 + 1, none⟩ = some (.slice Eu J4 Ex) ∧ w'.cell? ⟨rb, ro + (T.length - 1) * 6 + 2, none⟩ = some (.slice Ei Er El)) (by kernel_rfl) 10 ?_
    refine AnyU.abs ?_
    intro Bt hW
    have hb : Below Cu.heap.size Cu Bt := by rw [hW]; exact bDrew _
    replace hs := bStep hs hb
    replace B4 := B4.mono hb
    replace B0 := B0.mono hb
    replace h2 := h2.mono hb
    replace h3 := h3.mono hb
    replace By := By.mono hb
    replace B5 := B5.mono RC.kept hb
    replace Ch := cellK Ch hb
    replace Ci := cellK Ci hb
    replace Cj := cellK Cj hb
    clear hb hW
    have Bg := B4.a0
    have Bh := B4.a1
    have Bi := B4.a2
    have hH := (show Bt.cell? ⟨Bc.heap.size, 0, none⟩ = some (.bool Cc) ∧ Bt.cell? ⟨Bc.heap.size, 1, none⟩ = some (.slice C9 Cb Ca) ∧ Bt.cell? ⟨Bc.heap.size, 2, none⟩ = some (.slice C6 C8 C7) ∧ Bt.cell? ⟨rb, ro + (T.length - 1) * 6, none⟩ = some (.bool J0) ∧ Bt.cell? ⟨rb, ro + (T.length - 1) * 6 + 1, none⟩ = some (.slice Eu J4 Ex) ∧ Bt.cell? ⟨rb, ro + (T.length - 1) * 6 + 2, none⟩ = some (.slice Ei Er El) from ⟨Bg, Bh, Bi, Ch, Ci, Cj⟩)
    refine U_tk 0 48 ?_ ?_ hH ?_
    rotate_left
    ·(intro w B6; (try dsimp only at B6); go_simp; try with_reducible rfl)
    simp only [LY]
    refine U_tk 1 49 ?_ ?_ hH ?_
    rotate_left
    ·(intro w B6; (try dsimp only at B6); go_simp; try with_reducible rfl)
    simp only [LY]
    refine U_tk 2 50 ?_ ?_ hH ?_
    rotate_left
    ·(intro w B6; (try dsimp only at B6); go_simp; try with_reducible rfl)
    simp only [LY]
    refine U_tk 3 51 ?_ ?_ hH ?_
    rotate_left
    ·(intro w B6; (try dsimp only at B6); go_simp; try with_reducible rfl)
    simp only [LY]
    refine U_tk 4 52 ?_ ?_ hH ?_
    rotate_left
    ·(intro w B6; (try dsimp only at B6); go_simp; try with_reducible rfl)
    simp only [LY]
    refine U_tk 5 53 ?_ ?_ hH ?_
    rotate_left
    ·(intro w B6; (try dsimp only at B6); go_simp; try with_reducible rfl)
    simp only [LY]
    refine U_tk 6 54 ?_ ?_ hH ?_
    rotate_left
    ·(intro w B6; (try dsimp only at B6); go_simp; try with_reducible rfl)
    simp only [LY]
    refine U_tk 7 55 ?_ ?_ hH ?_
    rotate_left
    ·(intro w B6; (try dsimp only at B6); go_simp; try with_reducible rfl)
    simp only [LY]
    clear hH
    refine U_one (i := 8) (by kernel_rfl) rfl (fun K hK => ?_)
    go_simp
    (with_reducible refine (rCmp h2 By (SzQ.fit (szQ_int (by omega))) (SzQ.fit ((HZ.out (T.length - 1) (by omega)).1))).mono ?_)
    rintro e Bn ⟨rfl, hb⟩
    replace hs := bStep hs hb
    replace B4 := B4.mono hb
    replace B0 := B0.mono hb
    replace h2 := h2.mono hb
    replace h3 := h3.mono hb
    replace By := By.mono hb
    replace B5 := B5.mono RC.kept hb
    replace Bg := cellK Bg hb
    replace Bh := cellK Bh hb
    replace Bi := cellK Bi hb
    replace Ch := cellK Ch hb
    replace Ci := cellK Ci hb
    replace Cj := cellK Cj hb
    clear hb
    rw [← Dh.out]
    try go_wp2_with fail
    refine hK.out _ _ ⟨Bg, Bh, Bi, Ch, Ci, Cj⟩ (fun hH => ?_)
    clear hK K
    try simp only [LY]
    refine U_tk 9 57 ?_ ?_ hH ?_
    rotate_left
    ·(intro w B6; (try dsimp only at B6); go_simp; try with_reducible rfl)
    simp only [LY]
    clear hH
    refine U_endN (by kernel_rfl) ?_
    clear Bg Bh Bi Ch Ci Cj
    by_cases q10 : taQ T (T.length - 1) < ((k : Int) : Rat)
    ·have Ea : 0 < Ef := by have h := sq_gt (((k : Int) : Rat)) (taQ T (T.length - 1)); rw [← Dh.out] at h; exact h.2 q10
     have E9 := Lib.hid q10
     clear q10
     have q10d : decide (0 < Ef) = true := decide_eq_true Ea
     obtain ⟨_, _, _, _, _, _, _, Da, D8, Db, D9, D4, D7, D5, -, -, -, J9, Ja, Jb, -, Bl, le11⟩ := rowSR_at (HL.out.mono (C2.kept RC.kept) hs) (show (T.length - 1) < T.length by omega)
     have B1 := B0.a0
     have B2 := B0.a1
     have B3 := B0.a2
     have Cw := B0.free
     have Cv := B0.lt
     go_upto_region 17 with fail
     clear B1 B2 B3 Cw Cv le8 le11 J9 Ja Jb
     refine Code.abs ?_
     intro Bp hW
     have hG : Gr [B8.heap.size] Bn Bp := by rw [hW]; exact (Gr.refl _ _).set.set.set
     have hsz := hs.size
     have Cy := B0.lt
     have C4 : Below w.heap.size Bn Bp := hG.below1 hs.size (by first | omega | assumption)
     have hk : KeepD Bn Bp := hG.keep ⟨⟨_, B0.ty, by decide⟩, True.intro⟩
     have Br : Bx Bp (B8.heap.size) 38 #[.bool Da, .slice D8 Db D9, .slice D4 D7 D5] := by rw [hW]; exact B0.set3
     replace hs := hs.trans C4
     replace B4 := hG.bx B4 (notMem1 (by omega))
     replace B0 := Br
     clear Br
     replace h2 := h2.keep hk
     replace h3 := h3.keep hk
     replace By := By.keep hk
     replace Bl := Bl.keep hk
     replace B5 := B5.gr RC.kept hG (B7).one hk
     clear hW hG hk C4 hsz Cy
     clear h3 By
     have J7 : k < ys.length := by omega
     have J8 : ((k : Int) : Int) < (ys.length : Int) := by omega
     have B9 := rowF_at (HY.out.mono F32.kept hs) (show k < ys.length by omega)
     refine U_region (S := fun w' => w'.cell? ⟨B8.heap.size, 0, none⟩ = some (.bool Da) ∧ w'.cell? ⟨B8.heap.size, 1, none⟩ = some (.slice D8 Db D9) ∧ w'.cell? ⟨B8.heap.size, 2, none⟩ = some (.slice D4 D7 D5) ∧ w'.cell? ⟨bl, ol + k, none⟩ = some (.float .f32 (nthN ys k))) (by kernel_rfl) 10 ?_
     refine AnyU.abs ?_
     intro Bq hW
     have hb : Below Bp.heap.size Bp Bq := by rw [hW]; exact bDrew _
     replace hs := bStep hs hb
     replace B4 := B4.mono hb
     replace B0 := B0.mono hb
     replace h2 := h2.mono hb
     replace Bl := Bl.mono hb
     replace B5 := B5.mono RC.kept hb
     replace B9 := cellK B9 hb
     clear hb hW
     have B1 := B0.a0
     have B2 := B0.a1
     have B3 := B0.a2
     have hH := (show Bq.cell? ⟨B8.heap.size, 0, none⟩ = some (.bool Da) ∧ Bq.cell? ⟨B8.heap.size, 1, none⟩ = some (.slice D8 Db D9) ∧ Bq.cell? ⟨B8.heap.size, 2, none⟩ = some (.slice D4 D7 D5) ∧ Bq.cell? ⟨bl, ol + k, none⟩ = some (.float .f32 (nthN ys k)) from ⟨B1, B2, B3, B9⟩)
     refine U_tt 0 ?_ ?_ hH ?_
     rotate_left
     ·(intro w B6; (try dsimp only at B6); go_simp; try with_reducible rfl)
     try simp only [LY]
     refine U_tt 1 ?_ ?_ hH ?_
     rotate_left
     ·(intro w B6; (try dsimp only at B6); go_simp; try with_reducible rfl)
     try simp only [LY]
     refine U_tt 2 ?_ ?_ hH ?_
     rotate_left
     ·(intro w B6; (try dsimp only at B6); go_simp; try with_reducible rfl)
     try simp only [LY]
     refine U_tt 3 ?_ ?_ hH ?_
     rotate_left
     ·(intro w B6; (try dsimp only at B6); go_simp; try with_reducible rfl)
     try simp only [LY]
     refine U_tt 4 ?_ ?_ hH ?_
     rotate_left
     ·(intro w B6; (try dsimp only at B6); go_simp; try with_reducible rfl)
     try simp only [LY]
     refine U_tt 6 ?_ ?_ hH ?_
     rotate_left
     ·(intro w B6; (try dsimp only at B6); go_simp; try with_reducible rfl)
     try simp only [LY]
     clear hH
     refine U_one (i := 5) (by kernel_rfl) rfl (fun K hK => ?_)
     go_simp
     (with_reducible refine (r7_exactY Dq.out (by omega) _).mono ?_)
     rintro e Ce ⟨_, rfl, Bj, hb⟩
     obtain ⟨Dm, Dj, Dl, Dk, Dc, Di, Dd, rfl⟩ := Bj.shape
     replace hs := bStep hs hb
     replace B4 := B4.mono hb
     replace B0 := B0.mono hb
     replace h2 := h2.mono hb
     replace Bl := Bl.mono hb
     replace B5 := B5.mono RC.kept hb
     replace B1 := cellK B1 hb
     replace B2 := cellK B2 hb
     replace B3 := cellK B3 hb
     replace B9 := cellK B9 hb
     clear hb
     try go_wp2_with fail
     refine hK.out _ _ ⟨B1, B2, B3, B9⟩ (fun hH => ?_)
     clear hK K
     try simp only [LY]
     clear hH
     refine U_one (i := 7) (by kernel_rfl) rfl (fun K hK => ?_)
     go_simp
     (with_reducible refine (rMul Bj Bl (SzQ.fit (atQ_sz Dq.out (show k < ys.length by omega))) (SzQ.fit ((HZ.out (T.length - 1) (by omega)).2))).mono ?_)
     rintro e Bo ⟨_, rfl, Bv, hb⟩
     obtain ⟨Cr, Co, Cq, Cp, Cf, Cn, Cg, rfl⟩ := Bv.shape
     replace hs := bStep hs hb
     replace B4 := B4.mono hb
     replace B0 := B0.mono hb
     replace h2 := h2.mono hb
     replace Bl := Bl.mono hb
     replace Bj := Bj.mono hb
     replace B5 := B5.mono RC.kept hb
     replace B1 := cellK B1 hb
     replace B2 := cellK B2 hb
     replace B3 := cellK B3 hb
     replace B9 := cellK B9 hb
     clear hb
     try go_wp2_with fail
     refine hK.out _ _ ⟨B1, B2, B3, B9⟩ (fun hH => ?_)
     clear hK K
     try simp only [LY]
     clear hH
     refine U_one (i := 8) (by kernel_rfl) rfl (fun K hK => ?_)
     go_simp
     generalize hWn : (Bo.alloc (.cells #[.bool Cr, .slice Co Cq Cp, .slice Cf Cn Cg] 38)) = Dw
     have hb : Below Bo.heap.size Bo Dw := by rw [← hWn]; exact (Below.refl _ _).alloc (Nat.le_refl _) _
     have Bz : Bx Dw (Bo.heap.size) 38 #[.bool Cr, .slice Co Cq Cp, .slice Cf Cn Cg] := by rw [← hWn]; exact Bx.new _ _ _
     have E7 : Bc.heap.size ≠ Bo.heap.size := by have := B4.lt; omega
     have Ct : B8.heap.size ≠ Bo.heap.size := by have := B0.lt; omega
     have Eg : w.heap.size ≤ Bo.heap.size := hs.size
     replace hs := bStep hs hb
     replace B4 := B4.mono hb
     replace B0 := B0.mono hb
     replace h2 := h2.mono hb
     replace Bl := Bl.mono hb
     replace Bj := Bj.mono hb
     replace Bv := Bv.mono hb
     replace B5 := B5.mono RC.kept hb
     replace B1 := cellK B1 hb
     replace B2 := cellK B2 hb
     replace B3 := cellK B3 hb
     replace B9 := cellK B9 hb
     clear hb hWn
     refine hK.out _ _ ⟨B1, B2, B3, B9⟩ (fun hH => ?_)
     clear hK K
     try simp only [LY]
     clear hH
     refine U_one (i := 9) (by kernel_rfl) rfl (fun K hK => ?_)
     obtain ⟨css, D1, D2, D3, Bd⟩ := B5
     simp only [List.getElem_toArray, List.getElem_cons_succ, List.getElem_cons_zero]
     rw [if_pos (by rfl)]
     refine wp_append_lies _ _ _ _ (by rfl) w.heap.size 38 j0 _ 3 56 Tryz.underlying26 hj Cs Ec Ed (by rfl) (by omega) _ _ css.flatten (by rfl) Bd ⟨Bo.heap.size, 0, none⟩ 1 1 [.bool Cr, .slice Co Cq Cp, .slice Cf Cn Cg] (by rfl) (by rfl) Bz.news ?_ (by omega) ?_ ?_ ?_ _ rfl ?_
     ·intro u hu; simp only [List.mem_cons, List.mem_nil_iff, or_false] at hu; rcases hu with rfl | rfl | rfl <;> rfl
     ·unfold maxLen; (have := corK_len T (yQ ys) k; omega)
     ·(have := corK_len T (yQ ys) k; omega)
     ·exact hs.size
     intro J2 E5 w36 Bu Bb D0 hlt
     have hk := KeepD.owns Bd Bb (by decide)
     have ho := owns_onlyT Bd Bb
     replace B9 := Bb.cell B9 (fun e => by have := (Bd.lt _ e.symm).1; simp only at this; omega)
     replace hs := hs.grown Bb hs.size (fun k hk => (Bd.lt k hk).1)
     replace B5 := OwnR.push RC.kept D1 D2 D3 (x := (atQ (yQ ys) k) * (vaQ T (T.length - 1))) rfl ⟨_, _, _, rfl, Bv⟩ Bu hk
     have Bf := Be.app D0 B4.lt
     replace B4 := B4.grown Bb Be.ne
     replace Be := Bf
     clear Bf
     have Ba := B7.app D0 B0.lt
     replace B0 := B0.grown Bb B7.ne
     replace B7 := Ba
     clear Ba
     replace h2 := h2.keep hk
     replace Bl := Bl.keep hk
     replace Bj := Bj.keep hk
     replace Bv := Bv.keep hk
     replace B1 := B0.at 0 rfl
     replace B2 := B0.at 1 rfl
     replace B3 := B0.at 2 rfl
     clear hk ho D1 D2 D3 Bd Bu Bb Bz
     refine hK.out _ _ ⟨B1, B2, B3, B9⟩ (fun hH => ?_)
     clear hK K
     try simp only [LY]
     clear hH
     refine U_last (by kernel_rfl) rfl (by kernel_rfl) (fun K hK => ?_)
     go_simp
     refine hK.out _ _ ?_
     clear hK K
     intro wl hW
     rw [hW]
     clear hW wl
     try simp only [LY]
     clear B1 B2 B3 B9
     go_wp2
     go_roundw
     case rel => exact ⟨k + 1, by omega, by go_num, hs, (by rw [← corK_step (facQ_hi E8.out E9.out)]; exact B5)⟩
     all_goals first | (simp [intOf]; done) | (simp [intOf]; omega)
    ·have Ea : ¬ (0 < Ef) := by have h := sq_gt (((k : Int) : Rat)) (taQ T (T.length - 1)); rw [← Dh.out] at h; exact fun h1 => q10 (h.1 h1)
     have E9 := Lib.hid q10
     clear q10
     have q10d : decide (0 < Ef) = false := decide_eq_false Ea
     go_upto_region 17 with fail
     clear le8
     clear By
     have BI11a : k < ys.length := by omega
     have BI11b : ((k : Int) : Int) < (ys.length : Int) := by omega
     have Bm := rowF_at (HY.out.mono F32.kept hs) (show k < ys.length by omega)
     refine U_region (S := fun w' => w'.cell? ⟨B8.heap.size, 0, none⟩ = some (.bool Dv) ∧ w'.cell? ⟨B8.heap.size, 1, none⟩ = some (.slice Ds Du Dt) ∧ w'.cell? ⟨B8.heap.size, 2, none⟩ = some (.slice Do Dr Dp) ∧ w'.cell? ⟨bl, ol + k, none⟩ = some (.float .f32 (nthN ys k))) (by kernel_rfl) 10 ?_
     refine AnyU.abs ?_
     intro Bp hW
     have hb : Below Bn.heap.size Bn Bp := by rw [hW]; exact bDrew _
     replace hs := bStep hs hb
     replace B4 := B4.mono hb
     replace B0 := B0.mono hb
     replace h2 := h2.mono hb
     replace h3 := h3.mono hb
     replace B5 := B5.mono RC.kept hb
     replace Bm := cellK Bm hb
     clear hb hW
     have B1 := B0.a0
     have B2 := B0.a1
     have B3 := B0.a2
     have hH := (show Bp.cell? ⟨B8.heap.size, 0, none⟩ = some (.bool Dv) ∧ Bp.cell? ⟨B8.heap.size, 1, none⟩ = some (.slice Ds Du Dt) ∧ Bp.cell? ⟨B8.heap.size, 2, none⟩ = some (.slice Do Dr Dp) ∧ Bp.cell? ⟨bl, ol + k, none⟩ = some (.float .f32 (nthN ys k)) from ⟨B1, B2, B3, Bm⟩)
     refine U_tt 0 ?_ ?_ hH ?_
     rotate_left
     ·(intro w B6; (try dsimp only at B6); go_simp; try with_reducible rfl)
     try simp only [LY]
     refine U_tt 1 ?_ ?_ hH ?_
     rotate_left
     ·(intro w B6; (try dsimp only at B6); go_simp; try with_reducible rfl)
     try simp only [LY]
     refine U_tt 2 ?_ ?_ hH ?_
     rotate_left
     ·(intro w B6; (try dsimp only at B6); go_simp; try with_reducible rfl)
     try simp only [LY]
     refine U_tt 3 ?_ ?_ hH ?_
     rotate_left
     ·(intro w B6; (try dsimp only at B6); go_simp; try with_reducible rfl)
     try simp only [LY]
     refine U_tt 4 ?_ ?_ hH ?_
     rotate_left
     ·(intro w B6; (try dsimp only at B6); go_simp; try with_reducible rfl)
     try simp only [LY]
     refine U_tt 6 ?_ ?_ hH ?_
     rotate_left
     ·(intro w B6; (try dsimp only at B6); go_simp; try with_reducible rfl)
     try simp only [LY]
     clear hH
     refine U_one (i := 5) (by kernel_rfl) rfl (fun K hK => ?_)
     go_simp
     (with_reducible refine (r7_exactY Dq.out (by omega) _).mono ?_)
     rintro e Bq ⟨_, rfl, Cz, hb⟩
     obtain ⟨sh13, ah13, nh13, ch13, Ah13, Nh13, Ch13, rfl⟩ := Cz.shape
     replace hs := bStep hs hb
     replace B4 := B4.mono hb
     replace B0 := B0.mono hb
     replace h2 := h2.mono hb
     replace h3 := h3.mono hb
     replace B5 := B5.mono RC.kept hb
     replace B1 := cellK B1 hb
     replace B2 := cellK B2 hb
     replace B3 := cellK B3 hb
     replace Bm := cellK Bm hb
     clear hb
     try go_wp2_with fail
     refine hK.out _ _ ⟨B1, B2, B3, Bm⟩ (fun hH => ?_)
     clear hK K
     try simp only [LY]
     clear hH
     refine U_one (i := 7) (by kernel_rfl) rfl (fun K hK => ?_)
     go_simp
     (with_reducible refine (rMul Cz h3 (SzQ.fit (atQ_sz Dq.out (show k < ys.length by omega))) (SzQ.fit (valQ_sz HZ.out (SzQ.mono (szQ_int (by omega)) (by decide))))).mono ?_)
     rintro e Ce ⟨_, rfl, Bj, hb⟩
     obtain ⟨Dm, Dj, Dl, Dk, Dc, Di, Dd, rfl⟩ := Bj.shape
     replace hs := bStep hs hb
     replace B4 := B4.mono hb
     replace B0 := B0.mono hb
     replace h2 := h2.mono hb
     replace h3 := h3.mono hb
     replace Cz := Cz.mono hb
     replace B5 := B5.mono RC.kept hb
     replace B1 := cellK B1 hb
     replace B2 := cellK B2 hb
     replace B3 := cellK B3 hb
     replace Bm := cellK Bm hb
     clear hb
     try go_wp2_with fail
     refine hK.out _ _ ⟨B1, B2, B3, Bm⟩ (fun hH => ?_)
     clear hK K
     try simp only [LY]
     clear hH
     refine U_one (i := 8) (by kernel_rfl) rfl (fun K hK => ?_)
     go_simp
     generalize hWn : (Ce.alloc (.cells #[.bool Dm, .slice Dj Dl Dk, .slice Dc Di Dd] 38)) = Bo
     have hb : Below Ce.heap.size Ce Bo := by rw [← hWn]; exact (Below.refl _ _).alloc (Nat.le_refl _) _
     have Bz : Bx Bo (Ce.heap.size) 38 #[.bool Dm, .slice Dj Dl Dk, .slice Dc Di Dd] := by rw [← hWn]; exact Bx.new _ _ _
     have E7 : Bc.heap.size ≠ Ce.heap.size := by have := B4.lt; omega
     have Ct : B8.heap.size ≠ Ce.heap.size := by have := B0.lt; omega
     have Eg : w.heap.size ≤ Ce.heap.size := hs.size
     replace hs := bStep hs hb
     replace B4 := B4.mono hb
     replace B0 := B0.mono hb
     replace h2 := h2.mono hb
     replace h3 := h3.mono hb
     replace Cz := Cz.mono hb
     replace Bj := Bj.mono hb
     replace B5 := B5.mono RC.kept hb
     replace B1 := cellK B1 hb
     replace B2 := cellK B2 hb
     replace B3 := cellK B3 hb
     replace Bm := cellK Bm hb
     clear hb hWn
     refine hK.out _ _ ⟨B1, B2, B3, Bm⟩ (fun hH => ?_)
     clear hK K
     try simp only [LY]
     clear hH
     refine U_one (i := 9) (by kernel_rfl) rfl (fun K hK => ?_)
     obtain ⟨css, D1, D2, D3, Bd⟩ := B5
     simp only [List.getElem_toArray, List.getElem_cons_succ, List.getElem_cons_zero]
     rw [if_pos (by rfl)]
     refine wp_append_lies _ _ _ _ (by rfl) w.heap.size 38 j0 _ 3 56 Tryz.underlying26 hj Cs Ec Ed (by rfl) (by omega) _ _ css.flatten (by rfl) Bd ⟨Ce.heap.size, 0, none⟩ 1 1 [.bool Dm, .slice Dj Dl Dk, .slice Dc Di Dd] (by rfl) (by rfl) Bz.news ?_ (by omega) ?_ ?_ ?_ _ rfl ?_
     ·intro u hu; simp only [List.mem_cons, List.mem_nil_iff, or_false] at hu; rcases hu with rfl | rfl | rfl <;> rfl
     ·unfold maxLen; (have := corK_len T (yQ ys) k; omega)
     ·(have := corK_len T (yQ ys) k; omega)
     ·exact hs.size
     intro J2 E5 Dw Bu Bb D0 hlt
     have hk := KeepD.owns Bd Bb (by decide)
     have ho := owns_onlyT Bd Bb
     replace Bm := Bb.cell Bm (fun e => by have := (Bd.lt _ e.symm).1; simp only at this; omega)
     replace hs := hs.grown Bb hs.size (fun k hk => (Bd.lt k hk).1)
     replace B5 := OwnR.push RC.kept D1 D2 D3 (x := (atQ (yQ ys) k) * ((valQ T (((k : Int) : Rat))).1)) rfl ⟨_, _, _, rfl, Bj⟩ Bu hk
     have Bf := Be.app D0 B4.lt
     replace B4 := B4.grown Bb Be.ne
     replace Be := Bf
     clear Bf
     have Ba := B7.app D0 B0.lt
     replace B0 := B0.grown Bb B7.ne
     replace B7 := Ba
     clear Ba
     replace h2 := h2.keep hk
     replace h3 := h3.keep hk
     replace Cz := Cz.keep hk
     replace Bj := Bj.keep hk
     replace B1 := B0.at 0 rfl
     replace B2 := B0.at 1 rfl
     replace B3 := B0.at 2 rfl
     clear hk ho D1 D2 D3 Bd Bu Bb Bz
     refine hK.out _ _ ⟨B1, B2, B3, Bm⟩ (fun hH => ?_)
     clear hK K
     try simp only [LY]
     clear hH
     refine U_last (by kernel_rfl) rfl (by kernel_rfl) (fun K hK => ?_)
     go_simp
     refine hK.out _ _ ?_
     clear hK K
     intro wl hW
     rw [hW]
     clear hW wl
     try simp only [LY]
     clear B1 B2 B3 Bm
     go_wp2
     go_roundw
     case rel => exact ⟨k + 1, by omega, by go_num, hs, (by rw [← corK_step (facQ_in E8.out E9.out)]; exact B5)⟩
     all_goals first | (simp [intOf]; done) | (simp [intOf]; omega)
  ·have q1d : ((k : Int) < (ys.length : Int)) = False := eq_false (by omega)
   obtain rfl : k = ys.length := by omega
   have HO := Lib.hid B5.rows
   obtain ⟨oa, oc, rfl, _, _, _⟩ := HO.out.slice
   have HO2 := Lib.hid B5
   clear B5
   go_wp2
   go_ret2
   exact ⟨_, _, rfl, HO.out, rfl, hs⟩
theorem r7_Corrected (vy vt : Value) (ys : List Nat) (T : List Stp) (w : World) (hy : RowsI 1 F32 w vy (ys.map fun x => (x, flQ (cvF x)))) (hl : Rows 6 155 (C2 RC) w vt T) (hz : TabSz T) :
  Calls Tryz.prog 30 #[vy, vt] w (Ret2 (fun w v => Rows 3 38 RC w v (corV ys T)) (fun _ v => v = .int .i64 (corE ys T)) w) := by
 have hT := fun (w' : World) (hb : Below w.heap.size w w') => r7_Trace_calls vy ys w' (hy.mono F32.kept hb)
 have hB := fun (w' : World) (hb : Below w.heap.size w w') => r7_Table vt T w' _ (hl.mono (C2.kept RC.kept) hb) hz rfl
 have Cs := hy
 obtain ⟨ao, Bs, rfl, hc1, hc2, hc3⟩ := hy.slice
 obtain ⟨C5, rc, hvt, hc1, hc2, hc3⟩ := hl.slice
 subst hvt
 rw [List.length_map] at hT Cs ⊢
 by_cases e : traceE ys = 0
 ·obtain ⟨hN, Eb⟩ := trace_zero e
  rw [e] at hT
  by_cases e2 : tabE T = 0
  ·have e3 : corE ys T = 0 := by unfold corE; rw [if_pos e, e2]
   have e4 : corV ys T = corK T (yQ ys) ys.length := by unfold corV; rw [if_pos e3]
   rw [e3, e4]
   rw [e2] at hB
   have E6 := (tabE_ok e2).1
   by_cases h0 : ys.length = 0
   ·exact r7_Corrected_nil ao C5 Bs rc ys T w hT hB h0
   ·have hx : (ys.map fun x => (x, flQ (cvF x)))[0]? = some (nthN ys 0, flQ (cvF (nthN ys 0))) := by rw [List.getElem?_map, nthN_some (by omega)]; rfl
    obtain ⟨b', o', c', cs, hv, -, -, -⟩ := Cs.get hx
    obtain ⟨rfl, rfl⟩ := sliceE hv
    obtain ⟨rb, ro, rc', hv, -, -, -⟩ := hl.open_ (by omega)
    obtain ⟨rfl, rfl⟩ := sliceE hv
    exact r7_Corrected_ok b' o' Bs rb ro rc ys T w hT hB hl Cs hz e2 E6 E6 (tabE_ok e2).2.1 (cell_lt (rowF_at Cs (show 0 < ys.length by omega))) (fun i hi => Eb _ (List.mem_of_getElem? (nthN_some hi))) hN (hl.lt (by omega))
  ·have e3 : corE ys T = tabE T := by unfold corE; rw [if_pos e]
   have e4 : corV ys T = [] := by unfold corV; rw [if_neg (by rw [e3]; exact e2)]
   rw [e3, e4]
   refine (r7_Corrected_err2 ao C5 Bs rc ys T _ w hT hB e2).mono ?_
   rintro e w1 ⟨_, _, rfl, rfl, h2, h3⟩
   exact ⟨_, _, rfl, Rows.nil_ _, h2, h3⟩
 ·have e3 : corE ys T = traceE ys := by unfold corE; rw [if_neg e]
  have e4 : corV ys T = [] := by unfold corV; rw [if_neg (by rw [e3]; exact e)]
  rw [e3, e4]
  refine (r7_Corrected_err1 ao C5 Bs rc ys T _ w hT e).mono ?_
  rintro e w1 ⟨_, _, rfl, rfl, h2, h3⟩
  exact ⟨_, _, rfl, Rows.nil_ _, h2, h3⟩
end Go.Proofs.YtkfekkhhfpkfaaaGreat
