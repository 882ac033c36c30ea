/-
  scan.Corrected.
-/
import Derived.Test.YtkfekkhhfpkfaaaGreatPkCorQ
import Derived.Test.YtkfekkhhfpkfaaaGreatStepsQ
import Derived.Test.YtkfekkhhfpkfaaaGreatPkPeakBQ
import Derived.Test.YtkfekkhhfpkfaaaGreatPkOwnQ
import Derived.Test.YtkfekkhhfpkfaaaGreatPkDepthQ
import Derived.Test.YtkfekkhhfpkfaaaGreatPkHeld3Q
set_option linter.unusedSimpArgs false
set_option linter.unusedVariables false
set_option maxRecDepth 100000
set_option maxHeartbeats 16000000
namespace Go.Proofs.YtkfekkhhfpkfaaaGreat
open Go.RowKit Dg
attribute [local go_sem ↓] Go.wp_at_zero Go.wp_at_succ
theorem OwnR.baseC {α : Type} {base base' size : Nat} {T : TypeId} {R : World → List Value → α → Prop} {w : World} {v : Value} {l : List α} (h : OwnR base T size R w v l) (hb : base' ≤ base) : OwnR base' T size R w v l := by
 obtain ⟨css, Ci, h2, h3, e1, e2⟩ := h
 refine ⟨css, Ci, h2, h3, e1, ?_⟩
 rcases e2 with h | ⟨g, Ca, cur, hv, hb', hr⟩
 ·exact .inl h
 ·exact .inr ⟨g, Ca, cur, hv, by omega, hr⟩
theorem sc_exact_nil (ao : Option Addr) (Ca : Nat) (w : World) : Calls Tryz.prog 67 #[.slice ao 0 Ca] w (Ret2 (fun _ v => v = .slice none 0 0) (fun _ v => v = .int .i64 0) w) := by
 have hs := Below.refl w.heap.size w
 go_enter Tryz.func67, Tryz.ntmps67
 go_wp2
 go_loopw [4, 14] (fun av iv wq => av = .slice none 0 0 ∧ iv = .int .i64 0 ∧ Below w.heap.size w wq) (fun _ _ _ => 0)
 case atStart => exact ⟨rfl, rfl, hs⟩
 case round =>
  obtain ⟨rfl, rfl, hs⟩ := hrel
  go_wp2
  go_ret2
  exact ⟨_, _, rfl, rfl, rfl, hs⟩
theorem sc_Corrected_err1 (ao : Option Addr) (N Ca : Nat) (Da : Option Addr) (rc : Nat) (L : List Rat) (T : List Stp) (err : Int) (w : World) (hX : ∀ w1 : World, Below w.heap.size w w1 → Calls Tryz.prog 67 #[.slice ao N Ca] w1 (Ret2 (fun _ v => v = .slice none 0 0) (fun _ v => v = .int .i64 err) w1)) (hne : ¬ err = 0) :
  Calls Tryz.prog 29 #[.slice ao N Ca, .slice Da T.length rc] w (Ret2 (fun _ v => v = .slice none 0 0) (fun _ v => v = .int .i64 err) w) := by
 have hs := Below.refl w.heap.size w
 have HX := Lib.hid hX
 clear hX
 have HNE := Lib.hid hne
 clear hne
 go_enter Tryz.func29, Tryz.ntmps29
 go_wp2_with fail
 with_reducible refine (HX.out _ hs).mono ?_
 rintro e w1 ⟨_, _, rfl, rfl, rfl, hb⟩
 replace hs := bStep hs hb
 clear hb
 have q1 : ¬ (err = 0) := HNE.out
 have q1b : (err == 0) = false := beq_eq_false_iff_ne.2 (by omega)
 have q1n : (err != 0) = true := bne_iff_ne.2 (by omega)
 have q1H := Lib.hid q1
 clear q1
 go_wp2
 go_ret2
 exact ⟨_, _, rfl, rfl, rfl, hs⟩
theorem sc_Corrected_err2 (ao : Option Addr) (N Ca : Nat) (Da : Option Addr) (rc : Nat) (L : List Rat) (T : List Stp) (err : Int) (w : World) (hX : ∀ w1 : World, Below w.heap.size w w1 → Calls Tryz.prog 67 #[.slice ao N Ca] w1 (Ret2 (fun w2 v => OwnR w1.heap.size 32 3 PC w2 v L) (fun _ v => v = .int .i64 0) w1)) (hB : ∀ w1 : World, Below w.heap.size w w1 → Calls Tryz.prog 83 #[.slice Da T.length rc] w1 (RetV w1 (.int .i64 err))) (hne : ¬ err = 0) :
  Calls Tryz.prog 29 #[.slice ao N Ca, .slice Da T.length rc] w (Ret2 (fun _ v => v = .slice none 0 0) (fun _ v => v = .int .i64 err) w) := by
 have hs := Below.refl w.heap.size w
 have HX := Lib.hid hX
 clear hX
 have Dz := Lib.hid hB
 clear hB
 have HNE := Lib.hid hne
 clear hne
 go_enter Tryz.func29, Tryz.ntmps29
 go_wp2_with fail
 with_reducible refine (HX.out _ hs).mono ?_
 rintro e w1 ⟨_, _, rfl, E3, rfl, hb⟩
 replace E3 := OwnR.rows E3
 obtain ⟨ahX1, khX1, rfl, hX11, hX12, -⟩ := E3.toI.slice
 replace hs := bStep hs hb
 clear hb
 go_wp2_with fail
 with_reducible refine (Dz.out _ hs).mono ?_
 rintro e w2 ⟨rfl, hb⟩
 replace hs := bStep hs hb
 replace E3 := rowsJ PC.kept _ _ _ E3 hb
 clear hb
 have q2 : ¬ (err = 0) := HNE.out
 have q2b : (err == 0) = false := beq_eq_false_iff_ne.2 (by omega)
 have q2n : (err != 0) = true := bne_iff_ne.2 (by omega)
 have q2H := Lib.hid q2
 clear q2
 go_wp2
 go_ret2
 exact ⟨_, _, rfl, rfl, rfl, hs⟩
theorem sc_Corrected_nil (ao : Option Addr) (N Ca : Nat) (rb ro rc : Nat) (L : List Rat) (T : List Stp) (w : World) (hX : ∀ w1 : World, Below w.heap.size w w1 → Calls Tryz.prog 67 #[.slice ao N Ca] w1 (Ret2 (fun _ v => v = .slice none 0 0) (fun _ v => v = .int .i64 0) w1)) (hB : ∀ w1 : World, Below w.heap.size w w1 → Calls Tryz.prog 83 #[.slice (some ⟨rb, ro, none⟩) T.length rc] w1 (RetV w1 (.int .i64 0))) (hl : Rows 6 153 (C2 PC) w (.slice (some ⟨rb, ro, none⟩) T.length rc) T) (hz : TabSz T) (hte : tabE T = 0) (Ci : 1 ≤ T.length) (h0T : 0 < T.length) (h12 : T.length ≤ 12) (hrb : rb < w.heap.size) (h0 : L.length = 0) :
  Calls Tryz.prog 29 #[.slice ao N Ca, .slice (some ⟨rb, ro, none⟩) T.length rc] w (Ret2 (fun w v => Rows 3 32 PC w v (corP T L L.length)) (fun _ v => v = .int .i64 0) w) := by
 have hs := Below.refl w.heap.size w
 have HX := Lib.hid hX
 clear hX
 have Dz := Lib.hid hB
 clear hB
 have h00 : L.length ≤ 0 := by omega
 have HN0 := Lib.hid h0
 clear h0
 have HL := Lib.hid hl
 have HZ := Lib.hid hz
 have HAS := Lib.hid (ascB_asc _ (tabE_ok hte).2.2)
 clear hl hz hte
 go_enter Tryz.func29, Tryz.ntmps29
 go_wp2_with fail
 with_reducible refine (HX.out _ hs).mono ?_
 rintro e w1 ⟨_, _, rfl, rfl, rfl, hb⟩
 replace hs := bStep hs hb
 clear hb
 go_wp2_with fail
 with_reducible refine (Dz.out _ hs).mono ?_
 rintro e w2 ⟨rfl, hb⟩
 replace hs := bStep hs hb
 clear hb
 go_upto_region 7 with fail
 obtain ⟨Bv, Bt, Bw, Bu, Bq, Bs, Br, _, _, _, _, _, _, _, Bg, Bj, Bk, -, -, -, B3, -, le1⟩ := rowSP_at (HL.out.mono (C2.kept PC.kept) hs) (show 0 < T.length by omega)
 simp only [Nat.zero_mul, Nat.add_zero] at Bg Bj Bk
 have SW2a := IntWalk.i64_in ((T.length : Int) - 1) (by omega)
 have SW2b : (0 : Int) ≤ (T.length : Int) - 1 := by omega
 have SW2c : ((T.length : Int) - 1).toNat = (T.length - 1) := by omega
 have SW2d : (T.length : Int) - 1 < (T.length : Int) := by omega
 have SW2e : (1 : Int) ≤ (T.length : Int) := by omega
 have SW2f : (T.length : Int) < (T.length : Int) + 1 := by omega
 obtain ⟨C4, C1, C5, C3, By, C0, Bz, _, _, _, _, _, _, _, Bn, Bo, Bp, -, -, -, B4, -, le3⟩ := rowSP_at (HL.out.mono (C2.kept PC.kept) hs) (show (T.length - 1) < T.length by omega)
 go_cut [9, 10] (fun kv0 kv1 wz => ∃ B9 Ba, kv0 = .pointer (some ⟨B9, 0, none⟩) ∧ kv1 = .pointer (some ⟨Ba, 0, none⟩) ∧ w.heap.size ≤ B9 ∧ w.heap.size ≤ Ba ∧ B9 ≠ Ba ∧ Bx wz B9 32 #[.bool Bv, .slice Bt Bw Bu, .slice Bq Bs Br] ∧ Bx wz Ba 32 #[.bool C4, .slice C1 C5 C3, .slice By C0 Bz] ∧ Below w.heap.size w wz ∧ PV wz (.agg #[.bool Bv, .slice Bt Bw Bu, .slice Bq Bs Br]) (taQ T 0) ∧ PV wz (.agg #[.bool C4, .slice C1 C5 C3, .slice By C0 Bz]) (taQ T (T.length - 1)))
 case first =>
  refine U_region (S := fun w' => w'.cell? ⟨rb, ro, none⟩ = some (.bool Bv) ∧ w'.cell? ⟨rb, ro + 1, none⟩ = some (.slice Bt Bw Bu) ∧ w'.cell? ⟨rb, ro + 2, none⟩ = some (.slice Bq Bs Br) ∧ w'.cell? ⟨rb, ro + (T.length - 1) * 6, none⟩ = some (.bool C4) ∧ w'.cell? ⟨rb, ro + (T.length - 1) * 6 + 1, none⟩ = some (.slice C1 C5 C3) ∧ w'.cell? ⟨rb, ro + (T.length - 1) * 6 + 2, none⟩ = some (.slice By C0 Bz)) (by kernel_rfl) 14 ?_
  refine AnyU.abs ?_
  intro w3 hW
  have hb : Below w2.heap.size w2 w3 := by rw [hW]; exact bDrew _
  replace hs := bStep hs hb
  replace B3 := B3.mono hb
  replace B4 := B4.mono hb
  replace Bg := cellK Bg hb
  replace Bj := cellK Bj hb
  replace Bk := cellK Bk hb
  replace Bn := cellK Bn hb
  replace Bo := cellK Bo hb
  replace Bp := cellK Bp hb
  clear hb hW
  obtain ⟨FP, HP⟩ : ∃ FP : World → Prop, ∀ W, FP W ↔ (Below w.heap.size w W ∧ PV W (.agg #[.bool Bv, .slice Bt Bw Bu, .slice Bq Bs Br]) (taQ T 0) ∧ PV W (.agg #[.bool C4, .slice C1 C5 C3, .slice By C0 Bz]) (taQ T (T.length - 1)) ∧ W.cell? ⟨rb, ro, none⟩ = some (.bool Bv) ∧ W.cell? ⟨rb, ro + 1, none⟩ = some (.slice Bt Bw Bu) ∧ W.cell? ⟨rb, ro + 2, none⟩ = some (.slice Bq Bs Br) ∧ W.cell? ⟨rb, ro + (T.length - 1) * 6, none⟩ = some (.bool C4) ∧ W.cell? ⟨rb, ro + (T.length - 1) * 6 + 1, none⟩ = some (.slice C1 C5 C3) ∧ W.cell? ⟨rb, ro + (T.length - 1) * 6 + 2, none⟩ = some (.slice By C0 Bz)) := ⟨_, fun _ => Iff.rfl⟩
  have HM : ∀ W W', FP W → Below W.heap.size W W' → FP W' := by intro W W' h hb; obtain ⟨hs, B3, B4, Bg, Bj, Bk, Bn, Bo, Bp⟩ := (HP _).1 h; exact (HP _).2 ⟨bStep hs hb, B3.mono hb, B4.mono hb, cellK Bg hb, cellK Bj hb, cellK Bk hb, cellK Bn hb, cellK Bo hb, cellK Bp hb⟩
  have HC : ∀ W, FP W → W.cell? ⟨rb, ro, none⟩ = some (.bool Bv) ∧ W.cell? ⟨rb, ro + 1, none⟩ = some (.slice Bt Bw Bu) ∧ W.cell? ⟨rb, ro + 2, none⟩ = some (.slice Bq Bs Br) ∧ W.cell? ⟨rb, ro + (T.length - 1) * 6, none⟩ = some (.bool C4) ∧ W.cell? ⟨rb, ro + (T.length - 1) * 6 + 1, none⟩ = some (.slice C1 C5 C3) ∧ W.cell? ⟨rb, ro + (T.length - 1) * 6 + 2, none⟩ = some (.slice By C0 Bz) := by intro W h; obtain ⟨hs, B3, B4, Bg, Bj, Bk, Bn, Bo, Bp⟩ := (HP _).1 h; exact ⟨Bg, Bj, Bk, Bn, Bo, Bp⟩
  obtain ⟨NE, HN⟩ : ∃ NE : Nat → Prop, ∀ g, NE g ↔ (rb ≠ g) := ⟨_, fun _ => Iff.rfl⟩
  have HE : ∀ W, FP W → NE W.heap.size := by intro W h; obtain ⟨hs, B3, B4, Bg, Bj, Bk, Bn, Bo, Bp⟩ := (HP _).1 h; exact (HN _).2 (Nat.ne_of_lt (block_lt_of_cell Bg))
  have HG : ∀ W W' g, FP W → Gr [g] W W' → KeepD W W' → w.heap.size ≤ g → NE g → FP W' := by intro W W' g h hG hk hg hn; obtain ⟨hs, B3, B4, Bg, Bj, Bk, Bn, Bo, Bp⟩ := (HP _).1 h; have x0 := (HN g).1 hn; exact (HP _).2 ⟨hs.trans (hG.below1 hs.size hg), B3.keep hk, B4.keep hk, hG.cell Bg (notMem1 x0), hG.cell Bj (notMem1 x0), hG.cell Bk (notMem1 x0), hG.cell Bn (notMem1 x0), hG.cell Bo (notMem1 x0), hG.cell Bp (notMem1 x0)⟩
  have F : FP w3 := (HP _).2 ⟨hs, B3, B4, Bg, Bj, Bk, Bn, Bo, Bp⟩
  clear hs B3 B4 Bg Bj Bk Bn Bo Bp
  have hH := HC _ F
  refine U_takeD (i := 0) (d := 29) (v := ?_) rfl rfl (by kernel_rfl) (by kernel_rfl) (by kernel_rfl) (by kernel_rfl) (fun _ _ _ h => h) (Or.inl ⟨by rfl, ?_⟩) hH ?_
  rotate_left
  ·intro w Bf
   try dsimp only at Bf
   go_simp
   try with_reducible rfl
  simp only [LY]
  refine U_takeD (i := 1) (d := 30) (v := ?_) rfl rfl (by kernel_rfl) (by kernel_rfl) (by kernel_rfl) (by kernel_rfl) (fun _ _ _ h => h) (Or.inl ⟨by rfl, ?_⟩) hH ?_
  rotate_left
  ·intro w Bf
   try dsimp only at Bf
   go_simp
   try with_reducible rfl
  simp only [LY]
  refine U_takeD (i := 2) (d := 31) (v := ?_) rfl rfl (by kernel_rfl) (by kernel_rfl) (by kernel_rfl) (by kernel_rfl) (fun _ _ _ h => h) (Or.inl ⟨by rfl, ?_⟩) hH ?_
  rotate_left
  ·intro w Bf
   try dsimp only at Bf
   go_simp
   try with_reducible rfl
  simp only [LY]
  refine U_takeD (i := 3) (d := 32) (v := ?_) rfl rfl (by kernel_rfl) (by kernel_rfl) (by kernel_rfl) (by kernel_rfl) (fun _ _ _ h => h) (Or.inl ⟨by rfl, ?_⟩) hH ?_
  rotate_left
  ·intro w Bf
   try dsimp only at Bf
   go_simp
   try with_reducible rfl
  simp only [LY]
  refine U_takeD (i := 4) (d := 33) (v := ?_) rfl rfl (by kernel_rfl) (by kernel_rfl) (by kernel_rfl) (by kernel_rfl) (fun _ _ _ h => h) (Or.inl ⟨by rfl, ?_⟩) hH ?_
  rotate_left
  ·intro w Bf
   try dsimp only at Bf
   go_simp
   try with_reducible rfl
  simp only [LY]
  refine U_takeD (i := 5) (d := 34) (v := ?_) rfl rfl (by kernel_rfl) (by kernel_rfl) (by kernel_rfl) (by kernel_rfl) (fun _ _ _ h => h) (Or.inl ⟨by rfl, ?_⟩) hH ?_
  rotate_left
  ·intro w Bf
   try dsimp only at Bf
   go_simp
   try with_reducible rfl
  simp only [LY]
  refine U_takeD (i := 6) (d := 35) (v := ?_) rfl rfl (by kernel_rfl) (by kernel_rfl) (by kernel_rfl) (by kernel_rfl) (fun _ _ _ h => h) (Or.inl ⟨by rfl, ?_⟩) hH ?_
  rotate_left
  ·intro w Bf
   try dsimp only at Bf
   go_simp
   try with_reducible rfl
  simp only [LY]
  refine U_takeD (i := 7) (d := 36) (v := ?_) rfl rfl (by kernel_rfl) (by kernel_rfl) (by kernel_rfl) (by kernel_rfl) (fun _ _ _ h => h) (Or.inl ⟨by rfl, ?_⟩) hH ?_
  rotate_left
  ·intro w Bf
   try dsimp only at Bf
   go_simp
   try with_reducible rfl
  simp only [LY]
  refine U_takeD (i := 8) (d := 37) (v := ?_) rfl rfl (by kernel_rfl) (by kernel_rfl) (by kernel_rfl) (by kernel_rfl) (fun _ _ _ h => h) (Or.inl ⟨by rfl, ?_⟩) hH ?_
  rotate_left
  ·intro w Bf
   try dsimp only at Bf
   go_simp
   try with_reducible rfl
  simp only [LY]
  refine U_takeD (i := 9) (d := 38) (v := ?_) rfl rfl (by kernel_rfl) (by kernel_rfl) (by kernel_rfl) (by kernel_rfl) (fun _ _ _ h => h) (Or.inl ⟨by rfl, ?_⟩) hH ?_
  rotate_left
  ·intro w Bf
   try dsimp only at Bf
   go_simp
   try with_reducible rfl
  simp only [LY]
  refine U_takeD (i := 10) (d := 39) (v := ?_) rfl rfl (by kernel_rfl) (by kernel_rfl) (by kernel_rfl) (by kernel_rfl) (fun _ _ _ h => h) (Or.inl ⟨by rfl, ?_⟩) hH ?_
  rotate_left
  ·intro w Bf
   try dsimp only at Bf
   go_simp
   try with_reducible rfl
  simp only [LY]
  clear hH
  refine U_letters ?_
  intro X a0 HX HA
  have Cv : ∀ (W : World) (B2 : Nat) (B7 : Nat), FP W → (w.heap.size ≤ B2) → (NE B2) → (Bx W B2 32 #[.bool false, .slice none 0 0, .slice none 0 0]) → (w.heap.size ≤ B7) → (NE B7) → (Bx W B7 32 #[.bool false, .slice none 0 0, .slice none 0 0]) → (B2 ≠ B7) → X 2 #[true, true, true, true, true, true, true, true, true, true, true, true, true, false, false] ((a0.put (some 9) (.pointer (some ⟨B2, 0, none⟩))).put (some 10) (.pointer (some ⟨B7, 0, none⟩))) W := by
   intro W B2 B7 F Bd Bc B0 Bi Bh B1 Bl
   rw [← HX.out, ← HA.out]
   try simp only [LY]
   have Co := B0.a0
   have Cp := B0.a1
   have Cq := B0.a2
   have Ey := B0.free
   have Cw := B0.lt
   refine U_one (i := 13) (by kernel_rfl) rfl (fun K hK => ?_)
   go_simp
   generalize hW_ : (((W.setCell ⟨B2, 0, none⟩ (.bool Bv)).setCell ⟨B2, 1, none⟩ (.slice Bt Bw Bu)).setCell ⟨B2, 2, none⟩ (.slice Bq Bs Br)) = w4
   have hW := hW_.symm
   clear hW_
   have hG : Gr [B2] W w4 := by rw [hW]; exact (Gr.refl _ _).set.set.set
   have hk : KeepD W w4 := hG.keep ⟨⟨_, B0.ty, by decide⟩, True.intro⟩
   replace B0 : Bx w4 (B2) 32 #[.bool Bv, .slice Bt Bw Bu, .slice Bq Bs Br] := by rw [hW]; exact B0.set3
   replace F := HG _ _ _ F hG hk Bd Bc
   replace B1 := hG.bx B1 (notMem1 (by omega))
   clear hW hG hk
   refine hK.out _ _ (HC _ F) (fun hH => ?_)
   clear hK K
   try simp only [LY]
   clear hH
   have Cd := B1.a0
   have Ce := B1.a1
   have Cf := B1.a2
   have Jc := B1.free
   have Cu := B1.lt
   refine U_last (by kernel_rfl) rfl (by kernel_rfl) (fun K hK => ?_)
   go_simp
   refine hK.out _ _ ?_
   clear hK K
   intro w5 hW
   have hG : Gr [B7] w4 w5 := by rw [hW]; exact (Gr.refl _ _).set.set.set
   have hk : KeepD w4 w5 := hG.keep ⟨⟨_, B1.ty, by decide⟩, True.intro⟩
   replace B1 : Bx w5 (B7) 32 #[.bool C4, .slice C1 C5 C3, .slice By C0 Bz] := by rw [hW]; exact B1.set3
   replace F := HG _ _ _ F hG hk Bi Bh
   replace B0 := hG.bx B0 (notMem1 (by omega))
   clear hW hG hk
   obtain ⟨hs, B3, B4, Bg, Bj, Bk, Bn, Bo, Bp⟩ := (HP _).1 F
   try simp only [LY]
   have Ec := (HN _).1 Bc
   have Em := (HN _).1 Bh
   clear HX HA HM HP HC HG HN HE
   go_wp2_with fail
   go_meet
   exact ⟨B2, B7, rfl, rfl, (by first | exact Bd | omega), (by first | exact Bi | omega), (by omega), B0, B1, hs, B3, B4⟩
  replace Cv := Lib.hid Cv
  have D0 : ∀ (W : World) (B7 : Nat), FP W → (w.heap.size ≤ B7) → (NE B7) → (Bx W B7 32 #[.bool false, .slice none 0 0, .slice none 0 0]) → X 3 #[true, true, true, true, true, true, true, true, true, true, true, false, true, false, false] (a0.put (some 10) (.pointer (some ⟨B7, 0, none⟩))) W := by
   intro W B7 F Bi Bh B1
   rw [← HX.out, ← HA.out]
   try simp only [LY]
   refine U_one (i := 11) (by kernel_rfl) rfl (fun K hK => ?_)
   go_simp
   refine alloc_letter ((HP _).1 F).1 (fun W1 hb B0 Bd => ?_)
   have Bc := HE _ F
   have Bl := Nat.ne_of_gt B1.lt
   replace F := HM _ _ F hb
   replace B1 := B1.mono hb
   clear hb
   refine hK.out _ _ (HC _ F) (fun hH => ?_)
   clear hK K
   try simp only [LY]
   have Bb := Cv.out W1 W.heap.size B7 F Bd Bc B0 Bi Bh B1 Bl
   rw [← HX.out, ← HA.out] at Bb
   try simp only [LY] at Bb
   exact U_at (by kernel_rfl) (by kernel_rfl) Bb
  replace D0 := Lib.hid D0
  have Cz : ∀ (W : World) (B2 : Nat), FP W → (w.heap.size ≤ B2) → (NE B2) → (Bx W B2 32 #[.bool false, .slice none 0 0, .slice none 0 0]) → X 3 #[true, true, true, true, true, true, true, true, true, true, true, true, false, false, false] (a0.put (some 9) (.pointer (some ⟨B2, 0, none⟩))) W := by
   intro W B2 F Bd Bc B0
   rw [← HX.out, ← HA.out]
   try simp only [LY]
   refine U_one (i := 12) (by kernel_rfl) rfl (fun K hK => ?_)
   go_simp
   refine alloc_letter ((HP _).1 F).1 (fun W1 hb B1 Bi => ?_)
   have Bh := HE _ F
   have Bl := Nat.ne_of_lt B0.lt
   replace F := HM _ _ F hb
   replace B0 := B0.mono hb
   clear hb
   refine hK.out _ _ (HC _ F) (fun hH => ?_)
   clear hK K
   try simp only [LY]
   have Bb := Cv.out W1 B2 W.heap.size F Bd Bc B0 Bi Bh B1 Bl
   rw [← HX.out, ← HA.out] at Bb
   try simp only [LY] at Bb
   exact U_at (by kernel_rfl) (by kernel_rfl) Bb
  replace Cz := Lib.hid Cz
  have Cy : ∀ (W : World), FP W → X 4 #[true, true, true, true, true, true, true, true, true, true, true, false, false, false, false] a0 W := by
   intro W F
   rw [← HX.out, ← HA.out]
   try simp only [LY]
   refine U_two (i := 11) (j := 12) (by kernel_rfl) rfl rfl  (fun K hK => ?_) (fun K hK => ?_)
   ·go_simp
    refine alloc_letter ((HP _).1 F).1 (fun W1 hb B0 Bd => ?_)
    have Bc := HE _ F
    replace F := HM _ _ F hb
    clear hb
    refine hK.out _ _ (HC _ F) (fun hH => ?_)
    clear hK K
    try simp only [LY]
    have Bb := Cz.out W1 W.heap.size F Bd Bc B0
    rw [← HX.out, ← HA.out] at Bb
    try simp only [LY] at Bb
    exact U_at (by kernel_rfl) (by kernel_rfl) Bb
   ·go_simp
    refine alloc_letter ((HP _).1 F).1 (fun W1 hb B1 Bi => ?_)
    have Bh := HE _ F
    replace F := HM _ _ F hb
    clear hb
    refine hK.out _ _ (HC _ F) (fun hH => ?_)
    clear hK K
    try simp only [LY]
    have Bb := D0.out W1 W.heap.size F Bi Bh B1
    rw [← HX.out, ← HA.out] at Bb
    try simp only [LY] at Bb
    exact U_at (by kernel_rfl) (by kernel_rfl) Bb
  replace Cy := Lib.hid Cy
  rw [← HX.out]
  have Bb := Cy.out w3 F
  rw [← HX.out] at Bb
  exact U_at (by kernel_rfl) (by kernel_rfl) Bb
 case rest =>
  clear hs Bg Bj Bk Bn Bo Bp B3 B4
  obtain ⟨B9, Ba, rfl, rfl, E9, Ek, Db, B0, B1, hs, B3, B4⟩ := hcut
  go_wp2
  go_loopw [42] (fun s42 wq => ∃ k : Nat, k ≤ 0 ∧ s42 = .int .i64 k ∧ Below w.heap.size w wq ∧ Bx wq (B9) 32 #[.bool Bv, .slice Bt Bw Bu, .slice Bq Bs Br] ∧ Bx wq (Ba) 32 #[.bool C4, .slice C1 C5 C3, .slice By C0 Bz] ∧ PV wq (.agg #[.bool Bv, .slice Bt Bw Bu, .slice Bq Bs Br]) (taQ T 0) ∧ PV wq (.agg #[.bool C4, .slice C1 C5 C3, .slice By C0 Bz]) (taQ T (T.length - 1))) (fun s42 _ => 0 - (intOf s42).toNat)
  case atStart => exact ⟨0, Nat.zero_le _, rfl, hs, B0, B1, B3, B4⟩
  case round =>
   clear B0 B1 B3 B4 hs
   obtain ⟨k, k_le, rfl, hs, B0, B1, B3, B4⟩ := hrel
   have q4 : ¬ (k < 0) := by omega
   have q4d : ((k : Int) < 0) = False := eq_false (by omega)
   have k0 : k = 0 := by omega
   go_wp2
   go_ret2
   exact ⟨_, _, rfl, (by rw [HN0.out, corP_zero, List.eq_nil_of_length_eq_zero HN0.out]; exact Rows.nil_ _), rfl, hs⟩
theorem sc_Corrected_ok (ao : Option Addr) (N Ca : Nat) (rb ro rc : Nat) (L : List Rat) (T : List Stp) (w : World) (hX : ∀ w1 : World, Below w.heap.size w w1 → Calls Tryz.prog 67 #[.slice ao N Ca] w1 (Ret2 (fun w2 v => OwnR w1.heap.size 32 3 PC w2 v L) (fun _ v => v = .int .i64 0) w1)) (hB : ∀ w1 : World, Below w.heap.size w w1 → Calls Tryz.prog 83 #[.slice (some ⟨rb, ro, none⟩) T.length rc] w1 (RetV w1 (.int .i64 0))) (hl : Rows 6 153 (C2 PC) w (.slice (some ⟨rb, ro, none⟩) T.length rc) T) (hz : TabSz T) (hte : tabE T = 0) (Ci : 1 ≤ T.length) (h0T : 0 < T.length) (h12 : T.length ≤ 12) (hrb : rb < w.heap.size) (hlz : ∀ i, i < L.length → SzQ 40 (nthQ L i)) (h256 : L.length ≤ 256) (h0 : 0 < L.length) :
  Calls Tryz.prog 29 #[.slice ao N Ca, .slice (some ⟨rb, ro, none⟩) T.length rc] w (Ret2 (fun w v => Rows 3 32 PC w v (corP T L L.length)) (fun _ v => v = .int .i64 0) w) := by
 have hs := Below.refl w.heap.size w
 have HX := Lib.hid hX
 clear hX
 have Dz := Lib.hid hB
 clear hB
 have HL := Lib.hid hl
 have HZ := Lib.hid hz
 have HAS := Lib.hid (ascB_asc _ (tabE_ok hte).2.2)
 clear hl hz hte
 have HLZ := Lib.hid hlz
 clear hlz
 go_enter Tryz.func29, Tryz.ntmps29
 go_wp2_with fail
 with_reducible refine (HX.out _ hs).mono ?_
 rintro e w1 ⟨_, _, rfl, Oll, rfl, hb⟩
 obtain ⟨C7, Dj, rfl, gbll, -, -⟩ := Oll.openG h0
 have B5 : OwnG w.heap.size 32 3 PC Dj w1 C7 (corP T L 0) := by rw [corP_zero]; exact OwnR.baseC Oll hs.size
 clear Oll
 have Lv_ll := B5.lt
 replace hs := bStep hs hb
 clear hb
 go_wp2_with fail
 with_reducible refine (Dz.out _ hs).mono ?_
 rintro e w2 ⟨rfl, hb⟩
 replace hs := bStep hs hb
 replace B5 := OwnG.mono PC.kept B5 hb
 clear hb
 go_upto_region 7 with fail
 obtain ⟨Bv, Bt, Bw, Bu, Bq, Bs, Br, _, _, _, _, _, _, _, Bg, Bj, Bk, -, -, -, B3, -, le1⟩ := rowSP_at (HL.out.mono (C2.kept PC.kept) hs) (show 0 < T.length by omega)
 simp only [Nat.zero_mul, Nat.add_zero] at Bg Bj Bk
 have SW2a := IntWalk.i64_in ((T.length : Int) - 1) (by omega)
 have SW2b : (0 : Int) ≤ (T.length : Int) - 1 := by omega
 have SW2c : ((T.length : Int) - 1).toNat = (T.length - 1) := by omega
 have SW2d : (T.length : Int) - 1 < (T.length : Int) := by omega
 have SW2e : (1 : Int) ≤ (T.length : Int) := by omega
 have SW2f : (T.length : Int) < (T.length : Int) + 1 := by omega
 obtain ⟨C4, C1, C5, C3, By, C0, Bz, _, _, _, _, _, _, _, Bn, Bo, Bp, -, -, -, B4, -, le3⟩ := rowSP_at (HL.out.mono (C2.kept PC.kept) hs) (show (T.length - 1) < T.length by omega)
 go_cut [9, 10] (fun kv0 kv1 wz => ∃ B9 Ba, kv0 = .pointer (some ⟨B9, 0, none⟩) ∧ kv1 = .pointer (some ⟨Ba, 0, none⟩) ∧ w.heap.size ≤ B9 ∧ C7 ≠ B9 ∧ w.heap.size ≤ Ba ∧ C7 ≠ Ba ∧ B9 ≠ Ba ∧ Bx wz B9 32 #[.bool Bv, .slice Bt Bw Bu, .slice Bq Bs Br] ∧ Bx wz Ba 32 #[.bool C4, .slice C1 C5 C3, .slice By C0 Bz] ∧ Below w.heap.size w wz ∧ PV wz (.agg #[.bool Bv, .slice Bt Bw Bu, .slice Bq Bs Br]) (taQ T 0) ∧ PV wz (.agg #[.bool C4, .slice C1 C5 C3, .slice By C0 Bz]) (taQ T (T.length - 1)) ∧ OwnG w.heap.size 32 3 PC Dj wz (C7) (corP T L 0))
 case first =>
  refine U_region (S := fun w' => w'.cell? ⟨rb, ro, none⟩ = some (.bool Bv) ∧ w'.cell? ⟨rb, ro + 1, none⟩ = some (.slice Bt Bw Bu) ∧ w'.cell? ⟨rb, ro + 2, none⟩ = some (.slice Bq Bs Br) ∧ w'.cell? ⟨rb, ro + (T.length - 1) * 6, none⟩ = some (.bool C4) ∧ w'.cell? ⟨rb, ro + (T.length - 1) * 6 + 1, none⟩ = some (.slice C1 C5 C3) ∧ w'.cell? ⟨rb, ro + (T.length - 1) * 6 + 2, none⟩ = some (.slice By C0 Bz)) (by kernel_rfl) 14 ?_
  refine AnyU.abs ?_
  intro w3 hW
  have hb : Below w2.heap.size w2 w3 := by rw [hW]; exact bDrew _
  replace hs := bStep hs hb
  replace B3 := B3.mono hb
  replace B4 := B4.mono hb
  replace B5 := OwnG.mono PC.kept B5 hb
  replace Bg := cellK Bg hb
  replace Bj := cellK Bj hb
  replace Bk := cellK Bk hb
  replace Bn := cellK Bn hb
  replace Bo := cellK Bo hb
  replace Bp := cellK Bp hb
  clear hb hW
  obtain ⟨FP, HP⟩ : ∃ FP : World → Prop, ∀ W, FP W ↔ (Below w.heap.size w W ∧ PV W (.agg #[.bool Bv, .slice Bt Bw Bu, .slice Bq Bs Br]) (taQ T 0) ∧ PV W (.agg #[.bool C4, .slice C1 C5 C3, .slice By C0 Bz]) (taQ T (T.length - 1)) ∧ (OwnG w.heap.size 32 3 PC Dj W (C7) (corP T L 0)) ∧ W.cell? ⟨rb, ro, none⟩ = some (.bool Bv) ∧ W.cell? ⟨rb, ro + 1, none⟩ = some (.slice Bt Bw Bu) ∧ W.cell? ⟨rb, ro + 2, none⟩ = some (.slice Bq Bs Br) ∧ W.cell? ⟨rb, ro + (T.length - 1) * 6, none⟩ = some (.bool C4) ∧ W.cell? ⟨rb, ro + (T.length - 1) * 6 + 1, none⟩ = some (.slice C1 C5 C3) ∧ W.cell? ⟨rb, ro + (T.length - 1) * 6 + 2, none⟩ = some (.slice By C0 Bz)) := ⟨_, fun _ => Iff.rfl⟩
  have HM : ∀ W W', FP W → Below W.heap.size W W' → FP W' := by intro W W' h hb; obtain ⟨hs, B3, B4, B5, Bg, Bj, Bk, Bn, Bo, Bp⟩ := (HP _).1 h; exact (HP _).2 ⟨bStep hs hb, B3.mono hb, B4.mono hb, OwnG.mono PC.kept B5 hb, cellK Bg hb, cellK Bj hb, cellK Bk hb, cellK Bn hb, cellK Bo hb, cellK Bp hb⟩
  have HC : ∀ W, FP W → W.cell? ⟨rb, ro, none⟩ = some (.bool Bv) ∧ W.cell? ⟨rb, ro + 1, none⟩ = some (.slice Bt Bw Bu) ∧ W.cell? ⟨rb, ro + 2, none⟩ = some (.slice Bq Bs Br) ∧ W.cell? ⟨rb, ro + (T.length - 1) * 6, none⟩ = some (.bool C4) ∧ W.cell? ⟨rb, ro + (T.length - 1) * 6 + 1, none⟩ = some (.slice C1 C5 C3) ∧ W.cell? ⟨rb, ro + (T.length - 1) * 6 + 2, none⟩ = some (.slice By C0 Bz) := by intro W h; obtain ⟨hs, B3, B4, B5, Bg, Bj, Bk, Bn, Bo, Bp⟩ := (HP _).1 h; exact ⟨Bg, Bj, Bk, Bn, Bo, Bp⟩
  obtain ⟨NE, HN⟩ : ∃ NE : Nat → Prop, ∀ g, NE g ↔ (C7 ≠ g ∧ rb ≠ g) := ⟨_, fun _ => Iff.rfl⟩
  have HE : ∀ W, FP W → NE W.heap.size := by intro W h; obtain ⟨hs, B3, B4, B5, Bg, Bj, Bk, Bn, Bo, Bp⟩ := (HP _).1 h; exact (HN _).2 (⟨Nat.ne_of_lt (B5.lt), Nat.ne_of_lt (block_lt_of_cell Bg)⟩)
  have HG : ∀ W W' g, FP W → Gr [g] W W' → KeepD W W' → w.heap.size ≤ g → NE g → FP W' := by intro W W' g h hG hk hg hn; obtain ⟨hs, B3, B4, B5, Bg, Bj, Bk, Bn, Bo, Bp⟩ := (HP _).1 h; obtain ⟨Ja, x0⟩ := (HN g).1 hn; exact (HP _).2 ⟨hs.trans (hG.below1 hs.size hg), B3.keep hk, B4.keep hk, B5.gr PC.kept hG (notMem1 Ja) hk, hG.cell Bg (notMem1 x0), hG.cell Bj (notMem1 x0), hG.cell Bk (notMem1 x0), hG.cell Bn (notMem1 x0), hG.cell Bo (notMem1 x0), hG.cell Bp (notMem1 x0)⟩
  have F : FP w3 := (HP _).2 ⟨hs, B3, B4, B5, Bg, Bj, Bk, Bn, Bo, Bp⟩
  clear hs B3 B4 B5 Bg Bj Bk Bn Bo Bp
  have hH := HC _ F
  refine U_takeD (i := 0) (d := 29) (v := ?_) rfl rfl (by kernel_rfl) (by kernel_rfl) (by kernel_rfl) (by kernel_rfl) (fun _ _ _ h => h) (Or.inl ⟨by rfl, ?_⟩) hH ?_
  rotate_left
  ·intro w Bf
   try dsimp only at Bf
   go_simp
   try with_reducible rfl
  simp only [LY]
  refine U_takeD (i := 1) (d := 30) (v := ?_) rfl rfl (by kernel_rfl) (by kernel_rfl) (by kernel_rfl) (by kernel_rfl) (fun _ _ _ h => h) (Or.inl ⟨by rfl, ?_⟩) hH ?_
  rotate_left
  ·intro w Bf
   try dsimp only at Bf
   go_simp
   try with_reducible rfl
  simp only [LY]
  refine U_takeD (i := 2) (d := 31) (v := ?_) rfl rfl (by kernel_rfl) (by kernel_rfl) (by kernel_rfl) (by kernel_rfl) (fun _ _ _ h => h) (Or.inl ⟨by rfl, ?_⟩) hH ?_
  rotate_left
  ·intro w Bf
   try dsimp only at Bf
   go_simp
   try with_reducible rfl
  simp only [LY]
  refine U_takeD (i := 3) (d := 32) (v := ?_) rfl rfl (by kernel_rfl) (by kernel_rfl) (by kernel_rfl) (by kernel_rfl) (fun _ _ _ h => h) (Or.inl ⟨by rfl, ?_⟩) hH ?_
  rotate_left
  ·intro w Bf
   try dsimp only at Bf
   go_simp
   try with_reducible rfl
  simp only [LY]
  refine U_takeD (i := 4) (d := 33) (v := ?_) rfl rfl (by kernel_rfl) (by kernel_rfl) (by kernel_rfl) (by kernel_rfl) (fun _ _ _ h => h) (Or.inl ⟨by rfl, ?_⟩) hH ?_
  rotate_left
  ·intro w Bf
   try dsimp only at Bf
   go_simp
   try with_reducible rfl
  simp only [LY]
  refine U_takeD (i := 5) (d := 34) (v := ?_) rfl rfl (by kernel_rfl) (by kernel_rfl) (by kernel_rfl) (by kernel_rfl) (fun _ _ _ h => h) (Or.inl ⟨by rfl, ?_⟩) hH ?_
  rotate_left
  ·intro w Bf
   try dsimp only at Bf
   go_simp
   try with_reducible rfl
  simp only [LY]
  refine U_takeD (i := 6) (d := 35) (v := ?_) rfl rfl (by kernel_rfl) (by kernel_rfl) (by kernel_rfl) (by kernel_rfl) (fun _ _ _ h => h) (Or.inl ⟨by rfl, ?_⟩) hH ?_
  rotate_left
  ·intro w Bf
   try dsimp only at Bf
   go_simp
   try with_reducible rfl
  simp only [LY]
  refine U_takeD (i := 7) (d := 36) (v := ?_) rfl rfl (by kernel_rfl) (by kernel_rfl) (by kernel_rfl) (by kernel_rfl) (fun _ _ _ h => h) (Or.inl ⟨by rfl, ?_⟩) hH ?_
  rotate_left
  ·intro w Bf
   try dsimp only at Bf
   go_simp
   try with_reducible rfl
  simp only [LY]
  refine U_takeD (i := 8) (d := 37) (v := ?_) rfl rfl (by kernel_rfl) (by kernel_rfl) (by kernel_rfl) (by kernel_rfl) (fun _ _ _ h => h) (Or.inl ⟨by rfl, ?_⟩) hH ?_
  rotate_left
  ·intro w Bf
   try dsimp only at Bf
   go_simp
   try with_reducible rfl
  simp only [LY]
  refine U_takeD (i := 9) (d := 38) (v := ?_) rfl rfl (by kernel_rfl) (by kernel_rfl) (by kernel_rfl) (by kernel_rfl) (fun _ _ _ h => h) (Or.inl ⟨by rfl, ?_⟩) hH ?_
  rotate_left
  ·intro w Bf
   try dsimp only at Bf
   go_simp
   try with_reducible rfl
  simp only [LY]
  refine U_takeD (i := 10) (d := 39) (v := ?_) rfl rfl (by kernel_rfl) (by kernel_rfl) (by kernel_rfl) (by kernel_rfl) (fun _ _ _ h => h) (Or.inl ⟨by rfl, ?_⟩) hH ?_
  rotate_left
  ·intro w Bf
   try dsimp only at Bf
   go_simp
   try with_reducible rfl
  simp only [LY]
  clear hH
  refine U_letters ?_
  intro X a0 HX HA
  have Cv : ∀ (W : World) (B2 : Nat) (B7 : Nat), FP W → (w.heap.size ≤ B2) → (NE B2) → (Bx W B2 32 #[.bool false, .slice none 0 0, .slice none 0 0]) → (w.heap.size ≤ B7) → (NE B7) → (Bx W B7 32 #[.bool false, .slice none 0 0, .slice none 0 0]) → (B2 ≠ B7) → X 2 #[true, true, true, true, true, true, true, true, true, true, true, true, true, false, false] ((a0.put (some 9) (.pointer (some ⟨B2, 0, none⟩))).put (some 10) (.pointer (some ⟨B7, 0, none⟩))) W := by
   intro W B2 B7 F Bd Bc B0 Bi Bh B1 Bl
   rw [← HX.out, ← HA.out]
   try simp only [LY]
   have Co := B0.a0
   have Cp := B0.a1
   have Cq := B0.a2
   have Ey := B0.free
   have Cw := B0.lt
   refine U_one (i := 13) (by kernel_rfl) rfl (fun K hK => ?_)
   go_simp
   generalize hW_ : (((W.setCell ⟨B2, 0, none⟩ (.bool Bv)).setCell ⟨B2, 1, none⟩ (.slice Bt Bw Bu)).setCell ⟨B2, 2, none⟩ (.slice Bq Bs Br)) = w4
   have hW := hW_.symm
   clear hW_
   have hG : Gr [B2] W w4 := by rw [hW]; exact (Gr.refl _ _).set.set.set
   have hk : KeepD W w4 := hG.keep ⟨⟨_, B0.ty, by decide⟩, True.intro⟩
   replace B0 : Bx w4 (B2) 32 #[.bool Bv, .slice Bt Bw Bu, .slice Bq Bs Br] := by rw [hW]; exact B0.set3
   replace F := HG _ _ _ F hG hk Bd Bc
   replace B1 := hG.bx B1 (notMem1 (by omega))
   clear hW hG hk
   refine hK.out _ _ (HC _ F) (fun hH => ?_)
   clear hK K
   try simp only [LY]
   clear hH
   have Cd := B1.a0
   have Ce := B1.a1
   have Cf := B1.a2
   have Jc := B1.free
   have Cu := B1.lt
   refine U_last (by kernel_rfl) rfl (by kernel_rfl) (fun K hK => ?_)
   go_simp
   refine hK.out _ _ ?_
   clear hK K
   intro w5 hW
   have hG : Gr [B7] w4 w5 := by rw [hW]; exact (Gr.refl _ _).set.set.set
   have hk : KeepD w4 w5 := hG.keep ⟨⟨_, B1.ty, by decide⟩, True.intro⟩
   replace B1 : Bx w5 (B7) 32 #[.bool C4, .slice C1 C5 C3, .slice By C0 Bz] := by rw [hW]; exact B1.set3
   replace F := HG _ _ _ F hG hk Bi Bh
   replace B0 := hG.bx B0 (notMem1 (by omega))
   clear hW hG hk
   obtain ⟨hs, B3, B4, B5, Bg, Bj, Bk, Bn, Bo, Bp⟩ := (HP _).1 F
   try simp only [LY]
   obtain ⟨J9, Ec⟩ := (HN _).1 Bc
   obtain ⟨Jb, Em⟩ := (HN _).1 Bh
   clear HX HA HM HP HC HG HN HE
   go_wp2_with fail
   go_meet
   exact ⟨B2, B7, rfl, rfl, (by first | exact Bd | omega), (by omega), (by first | exact Bi | omega), (by omega), (by omega), B0, B1, hs, B3, B4, B5⟩
  replace Cv := Lib.hid Cv
  have D0 : ∀ (W : World) (B7 : Nat), FP W → (w.heap.size ≤ B7) → (NE B7) → (Bx W B7 32 #[.bool false, .slice none 0 0, .slice none 0 0]) → X 3 #[true, true, true, true, true, true, true, true, true, true, true, false, true, false, false] (a0.put (some 10) (.pointer (some ⟨B7, 0, none⟩))) W := by
   intro W B7 F Bi Bh B1
   rw [← HX.out, ← HA.out]
   try simp only [LY]
   refine U_one (i := 11) (by kernel_rfl) rfl (fun K hK => ?_)
   go_simp
   refine alloc_letter ((HP _).1 F).1 (fun W1 hb B0 Bd => ?_)
   have Bc := HE _ F
   have Bl := Nat.ne_of_gt B1.lt
   replace F := HM _ _ F hb
   replace B1 := B1.mono hb
   clear hb
   refine hK.out _ _ (HC _ F) (fun hH => ?_)
   clear hK K
   try simp only [LY]
   have Bb := Cv.out W1 W.heap.size B7 F Bd Bc B0 Bi Bh B1 Bl
   rw [← HX.out, ← HA.out] at Bb
   try simp only [LY] at Bb
   exact U_at (by kernel_rfl) (by kernel_rfl) Bb
  replace D0 := Lib.hid D0
  have Cz : ∀ (W : World) (B2 : Nat), FP W → (w.heap.size ≤ B2) → (NE B2) → (Bx W B2 32 #[.bool false, .slice none 0 0, .slice none 0 0]) → X 3 #[true, true, true, true, true, true, true, true, true, true, true, true, false, false, false] (a0.put (some 9) (.pointer (some ⟨B2, 0, none⟩))) W := by
   intro W B2 F Bd Bc B0
   rw [← HX.out, ← HA.out]
   try simp only [LY]
   refine U_one (i := 12) (by kernel_rfl) rfl (fun K hK => ?_)
   go_simp
   refine alloc_letter ((HP _).1 F).1 (fun W1 hb B1 Bi => ?_)
   have Bh := HE _ F
   have Bl := Nat.ne_of_lt B0.lt
   replace F := HM _ _ F hb
   replace B0 := B0.mono hb
   clear hb
   refine hK.out _ _ (HC _ F) (fun hH => ?_)
   clear hK K
   try simp only [LY]
   have Bb := Cv.out W1 B2 W.heap.size F Bd Bc B0 Bi Bh B1 Bl
   rw [← HX.out, ← HA.out] at Bb
   try simp only [LY] at Bb
   exact U_at (by kernel_rfl) (by kernel_rfl) Bb
  replace Cz := Lib.hid Cz
  have Cy : ∀ (W : World), FP W → X 4 #[true, true, true, true, true, true, true, true, true, true, true, false, false, false, false] a0 W := by
   intro W F
   rw [← HX.out, ← HA.out]
   try simp only [LY]
   refine U_two (i := 11) (j := 12) (by kernel_rfl) rfl rfl  (fun K hK => ?_) (fun K hK => ?_)
   ·go_simp
    refine alloc_letter ((HP _).1 F).1 (fun W1 hb B0 Bd => ?_)
    have Bc := HE _ F
    replace F := HM _ _ F hb
    clear hb
    refine hK.out _ _ (HC _ F) (fun hH => ?_)
    clear hK K
    try simp only [LY]
    have Bb := Cz.out W1 W.heap.size F Bd Bc B0
    rw [← HX.out, ← HA.out] at Bb
    try simp only [LY] at Bb
    exact U_at (by kernel_rfl) (by kernel_rfl) Bb
   ·go_simp
    refine alloc_letter ((HP _).1 F).1 (fun W1 hb B1 Bi => ?_)
    have Bh := HE _ F
    replace F := HM _ _ F hb
    clear hb
    refine hK.out _ _ (HC _ F) (fun hH => ?_)
    clear hK K
    try simp only [LY]
    have Bb := D0.out W1 W.heap.size F Bi Bh B1
    rw [← HX.out, ← HA.out] at Bb
    try simp only [LY] at Bb
    exact U_at (by kernel_rfl) (by kernel_rfl) Bb
  replace Cy := Lib.hid Cy
  rw [← HX.out]
  have Bb := Cy.out w3 F
  rw [← HX.out] at Bb
  exact U_at (by kernel_rfl) (by kernel_rfl) Bb
 case rest =>
  clear hs Bg Bj Bk Bn Bo Bp B3 B4 B5
  obtain ⟨B9, Ba, rfl, rfl, E9, En, Ek, J2, Db, B0, B1, hs, B3, B4, B5⟩ := hcut
  go_wp2
  go_loopw [42] (fun s42 wq => ∃ k : Nat, k ≤ L.length ∧ s42 = .int .i64 k ∧ Below w.heap.size w wq ∧ Bx wq (B9) 32 #[.bool Bv, .slice Bt Bw Bu, .slice Bq Bs Br] ∧ Bx wq (Ba) 32 #[.bool C4, .slice C1 C5 C3, .slice By C0 Bz] ∧ PV wq (.agg #[.bool Bv, .slice Bt Bw Bu, .slice Bq Bs Br]) (taQ T 0) ∧ PV wq (.agg #[.bool C4, .slice C1 C5 C3, .slice By C0 Bz]) (taQ T (T.length - 1)) ∧ (OwnG w.heap.size 32 3 PC Dj wq (C7) (corP T L k))) (fun s42 _ => L.length - (intOf s42).toNat)
  case atStart => exact ⟨0, Nat.zero_le _, rfl, hs, B0, B1, B3, B4, B5⟩
  case round =>
   clear B0 B1 B3 B4 hs
   obtain ⟨k, k_le, rfl, hs, B0, B1, B3, B4, B5⟩ := hrel
   replace B5 := Lib.hid B5
   replace B5 := B5.out
   by_cases q4 : k < L.length
   ·have q4d : ((k : Int) < (L.length : Int)) = True := eq_true (by omega)
    have BI5a : k < L.length := by omega
    have BI5b : ((k : Int) : Int) < (L.length : Int) := by omega
    obtain ⟨Ei, Eg, Ej, Eh, Ed, Ef, Ee, Jj, Jk, Jl, Be, le6⟩ := ownP_at B5 (show k < (corP T L k).length by (rw [corP_len]; omega))
    rw [corP_at (show k < L.length by omega)] at Be
    go_wp2_with fail
    clear le6 Jj Jk Jl
    have nv7 := B5.lt
    refine Calls.abs ?_
    intro E7 hW
    have hG : Gr [] wr E7 := by rw [hW]; exact (Gr.refl _ _).alloc
    have C6 : Below w.heap.size wr E7 := hG.below0 hs.size
    have hk : KeepD wr E7 := hG.keep True.intro
    have sz_w23 : w.heap.size ≤ wr.heap.size := hs.size
    have Jd := B0.lt
    have Jg := B1.lt
    have Jm := B5.lt
    have B8 : Bx E7 (wr.heap.size) 32 #[.bool Ei, .slice Eg Ej Eh, .slice Ed Ef Ee] := by rw [hW]; exact (Bx.new0 _ _ _)
    replace hs := hs.trans C6
    replace B5 := OwnG.mono PC.kept B5 (hG.below0 (Nat.le_refl _))
    replace B0 := hG.bx B0 notMem0
    replace B1 := hG.bx B1 notMem0
    replace B3 := B3.keep hk
    replace B4 := B4.keep hk
    replace Be := Be.keep hk
    clear hW hG hk C6
    have hz_w23 := B8.lt
    with_reducible refine (sc_whole ((k : Int)) _ (by omega) (by omega)).mono ?_
    rintro e w24 ⟨_, rfl, h8, hb⟩
    obtain ⟨E6, E1, E4, E2, Dx, E0, Dy, rfl⟩ := h8.shape
    replace hs := bStep hs hb
    replace B0 := B0.mono hb
    replace B1 := B1.mono hb
    replace B8 := B8.mono hb
    replace B3 := B3.mono hb
    replace B4 := B4.mono hb
    replace Be := Be.mono hb
    replace B5 := OwnG.mono PC.kept B5 hb
    clear hb
    have Co := B0.a0
    have Cp := B0.a1
    have Cq := B0.a2
    have Cw := B0.lt
    go_wp2_with fail
    clear Co Cp Cq Cw
    have nv9 := B5.lt
    refine Calls.abs ?_
    intro E8 hW
    have hG : Gr [] w24 E8 := by rw [hW]; exact (Gr.refl _ _).alloc
    have C6 : Below w.heap.size w24 E8 := hG.below0 hs.size
    have hk : KeepD w24 E8 := hG.keep True.intro
    have sz_w25 : w.heap.size ≤ w24.heap.size := hs.size
    have Je := B0.lt
    have Jh := B1.lt
    have nx_w25 := B8.lt
    have Jn := B5.lt
    have B6 : Bx E8 (w24.heap.size) 32 #[.bool E6, .slice E1 E4 E2, .slice Dx E0 Dy] := by rw [hW]; exact (Bx.new0 _ _ _)
    replace hs := hs.trans C6
    replace B5 := OwnG.mono PC.kept B5 (hG.below0 (Nat.le_refl _))
    replace B0 := hG.bx B0 notMem0
    replace B1 := hG.bx B1 notMem0
    replace B8 := hG.bx B8 notMem0
    replace B3 := B3.keep hk
    replace B4 := B4.keep hk
    replace Be := Be.keep hk
    replace h8 := h8.keep hk
    clear hW hG hk C6
    have hz_w25 := B6.lt
    with_reducible refine (pCmp h8 B3 (SzQ.fit (szQ_int (by omega))) (SzQ.fit ((HZ.out 0 (by omega)).1))).mono ?_
    rintro e Cb ⟨rfl, hb⟩
    replace hs := bStep hs hb
    replace B0 := B0.mono hb
    replace B1 := B1.mono hb
    replace B8 := B8.mono hb
    replace B6 := B6.mono hb
    replace B3 := B3.mono hb
    replace B4 := B4.mono hb
    replace Be := Be.mono hb
    replace h8 := h8.mono hb
    replace B5 := OwnG.mono PC.kept B5 hb
    clear hb
    obtain ⟨Dw, D6⟩ : ∃ s : Int, s = sgQ ((((k : Int) : Rat)) - (taQ T 0)) := ⟨_, rfl⟩
    rw [← D6]
    replace D6 := Lib.hid D6
    by_cases q11 : ((k : Int) : Rat) < taQ T 0
    ·have Eb : Dw < 0 := by have h := sq_lt (((k : Int) : Rat)) (taQ T 0); rw [← D6.out] at h; exact h.2 q11
     have Du := Lib.hid q11
     clear q11
     have q11d : decide (Dw < 0) = true := decide_eq_true Eb
     have Co := B0.a0
     have Cp := B0.a1
     have Cq := B0.a2
     have Cw := B0.lt
     have Ck := B6.a0
     have Cl := B6.a1
     have Cm := B6.a2
     have Cd := B1.a0
     have Ce := B1.a1
     have Cf := B1.a2
     have Cu := B1.lt
     have fat := B6.free
     have D7 := B6.lt
     go_wp2_with fail
     clear Co Cp Cq Ck Cl Cm Cd Ce Cf fat Cw D7 Cu
     refine Calls.abs ?_
     intro Cc hW
     have hG : Gr [w24.heap.size] Cb Cc := by rw [hW]; exact (Gr.refl _ _).set.set.set
     have D8 := hs.size
     have lat := B6.lt
     have C6 : Below w.heap.size Cb Cc := hG.below1 hs.size (by first | omega | assumption)
     have hk : KeepD Cb Cc := hG.keep ⟨⟨_, B6.ty, by decide⟩, True.intro⟩
     have D2 : Bx Cc (w24.heap.size) 32 #[.bool Bv, .slice Bt Bw Bu, .slice Bq Bs Br] := by rw [hW]; exact B6.set3
     replace hs := hs.trans C6
     replace B5 := OwnG.gr PC.kept B5 hG (notMem1 (by omega)) hk
     replace B0 := hG.bx B0 (notMem1 (by omega))
     replace B1 := hG.bx B1 (notMem1 (by omega))
     replace B8 := hG.bx B8 (notMem1 (by omega))
     replace B6 := D2
     clear D2
     replace B3 := B3.keep hk
     replace B4 := B4.keep hk
     replace Be := Be.keep hk
     replace h8 := h8.keep hk
     clear hW hG hk C6 D8 lat
     with_reducible refine (pCmp B3 B4 (SzQ.fit ((HZ.out 0 (by omega)).1)) (SzQ.fit ((HZ.out (T.length - 1) (by omega)).1))).mono ?_
     rintro e C9 ⟨rfl, hb⟩
     clear h8
     replace hs := bStep hs hb
     replace B0 := B0.mono hb
     replace B1 := B1.mono hb
     replace B8 := B8.mono hb
     replace B6 := B6.mono hb
     replace B3 := B3.mono hb
     replace B4 := B4.mono hb
     replace Be := Be.mono hb
     replace B5 := OwnG.mono PC.kept B5 hb
     clear hb
     obtain ⟨D1, Cg⟩ : ∃ s : Int, s = sgQ ((taQ T 0) - (taQ T (T.length - 1))) := ⟨_, rfl⟩
     rw [← Cg]
     replace Cg := Lib.hid Cg
     have Cx : ¬ (taQ T (T.length - 1) < taQ T 0) := (ta_ends' HAS.out Ci)
     have Dr : ¬ (0 < D1) := by have h := sq_gt (taQ T 0) (taQ T (T.length - 1)); rw [← Cg.out] at h; exact fun h1 => Cx (h.1 h1)
     have Dv := Lib.hid Cx
     clear Cx
     have J6 : decide (0 < D1) = false := decide_eq_false Dr
     have Ck := B6.a0
     have Cl := B6.a1
     have Cm := B6.a2
     have D7 := B6.lt
     go_wp2_with fail
     clear Ck Cl Cm D7
     with_reducible refine (sc_value _ T _ (taQ T 0) _ _ _ (HL.out.mono (C2.kept PC.kept) hs) Ci HZ.out B3 (SzQ.mono ((HZ.out 0 (by omega)).1) (by decide)) (valQ_lo Ci)).mono ?_
     rintro e Bm ⟨_, _, rfl, C8, rfl, hb⟩
     obtain ⟨Ds, Dh, Dq, Di, Dc, Df, Dd, rfl⟩ := C8.shape
     replace hs := bStep hs hb
     replace B0 := B0.mono hb
     replace B1 := B1.mono hb
     replace B8 := B8.mono hb
     replace B6 := B6.mono hb
     replace B3 := B3.mono hb
     replace B4 := B4.mono hb
     replace Be := Be.mono hb
     replace B5 := OwnG.mono PC.kept B5 hb
     clear hb
     have Dk := B8.a0
     have Dl := B8.a1
     have Dm := B8.a2
     have Lx := B8.lt
     go_wp2_with fail
     clear Dk Dl Dm Lx
     have J4 := B5.lt
     refine Calls.abs ?_
     intro Cj hW
     have hG : Gr [] Bm Cj := by rw [hW]; exact (Gr.refl _ _).alloc
     have C6 : Below w.heap.size Bm Cj := hG.below0 hs.size
     have hk : KeepD Bm Cj := hG.keep True.intro
     have J8 : w.heap.size ≤ Bm.heap.size := hs.size
     have Dt := B0.lt
     have E5 := B1.lt
     have J5 := B8.lt
     have El := B6.lt
     have Ea := B5.lt
     have Ch : Bx Cj (Bm.heap.size) 32 #[.bool Ds, .slice Dh Dq Di, .slice Dc Df Dd] := by rw [hW]; exact (Bx.new0 _ _ _)
     replace hs := hs.trans C6
     replace B5 := OwnG.mono PC.kept B5 (hG.below0 (Nat.le_refl _))
     replace B0 := hG.bx B0 notMem0
     replace B1 := hG.bx B1 notMem0
     replace B8 := hG.bx B8 notMem0
     replace B6 := hG.bx B6 notMem0
     replace B3 := B3.keep hk
     replace B4 := B4.keep hk
     replace Be := Be.keep hk
     replace C8 := C8.keep hk
     clear hW hG hk C6
     have J0 := Ch.lt
     with_reducible refine (pMul Be C8 (SzQ.fit (HLZ.out k (by omega))) (SzQ.fit ((HZ.out 0 (by omega)).2.mono (show 1 ≤ 400 by decide)))).mono ?_
     rintro e Ct ⟨_, rfl, Cs, hb⟩
     obtain ⟨J7, Ev, J3, Ex, Ep, Et, Eq, rfl⟩ := Cs.shape
     replace hs := bStep hs hb
     replace B0 := B0.mono hb
     replace B1 := B1.mono hb
     replace B8 := B8.mono hb
     replace B6 := B6.mono hb
     replace Ch := Ch.mono hb
     replace B3 := B3.mono hb
     replace B4 := B4.mono hb
     replace Be := Be.mono hb
     replace C8 := C8.mono hb
     replace B5 := OwnG.mono PC.kept B5 hb
     clear hb
     obtain ⟨Ez, Eu, J1, Ew, Eo, Es, Er, D3, D4, D5, Cr, Dp⟩ := ownP_at B5 (show k < (corP T L k).length by (rw [corP_len]; omega))
     rw [corP_at (show k < L.length by omega)] at Cr
     have Dn := B5.free
     have De := B5.lt
     go_upto_region 18 with fail
     clear Dn De Dp D3 D4 D5
     refine Code.abs ?_
     intro D9 hW
     have hG : Gr [C7] Ct D9 := by rw [hW]; exact (Gr.refl _ _).set.set.set
     have D8 := hs.size
     have C6 : Below w.heap.size Ct D9 := hG.below1 hs.size (by first | omega | assumption)
     have hk : KeepD Ct D9 := hG.keep ⟨⟨_, B5.ty, by decide⟩, True.intro⟩
     have Cn : OwnG w.heap.size 32 3 PC Dj D9 (C7) ((corP T L k).set k (nthQ L k * vaQ T 0)) := by rw [hW]; exact B5.put3 PC.kept (show k < (corP T L k).length by rw [corP_len]; omega) (by decide) ⟨_, _, _, rfl, Cs⟩ ((Gr.refl _ _))
     rw [(corP_step (show k < L.length by omega) (facQ_lo Du.out))] at Cn
     replace hs := hs.trans C6
     replace B0 := hG.bx B0 (notMem1 (by omega))
     replace B1 := hG.bx B1 (notMem1 (by omega))
     replace B8 := hG.bx B8 (notMem1 (by omega))
     replace B6 := hG.bx B6 (notMem1 (by omega))
     replace Ch := hG.bx Ch (notMem1 (by omega))
     replace B5 := Cn
     clear Cn
     replace B3 := B3.keep hk
     replace B4 := B4.keep hk
     replace Be := Be.keep hk
     replace C8 := C8.keep hk
     replace Cs := Cs.keep hk
     replace Cr := Cr.keep hk
     clear hW hG hk C6 D8
     go_wp2
     go_roundw
     case rel => exact ⟨k + 1, by omega, by go_num, hs, B0, B1, B3, B4, B5⟩
     all_goals first | (simp [intOf]; done) | (simp [intOf]; omega)
    ·have Eb : ¬ (Dw < 0) := by have h := sq_lt (((k : Int) : Rat)) (taQ T 0); rw [← D6.out] at h; exact fun h1 => q11 (h.1 h1)
     have Du := Lib.hid q11
     clear q11
     have q11d : decide (Dw < 0) = false := decide_eq_false Eb
     have Ck := B6.a0
     have Cl := B6.a1
     have Cm := B6.a2
     have D7 := B6.lt
     have Cd := B1.a0
     have Ce := B1.a1
     have Cf := B1.a2
     have Cu := B1.lt
     go_wp2_with fail
     clear Ck Cl Cm Cd Ce Cf D7 Cu
     with_reducible refine (pCmp h8 B4 (SzQ.fit (szQ_int (by omega))) (SzQ.fit ((HZ.out (T.length - 1) (by omega)).1))).mono ?_
     rintro e Cc ⟨rfl, hb⟩
     replace hs := bStep hs hb
     replace B0 := B0.mono hb
     replace B1 := B1.mono hb
     replace B8 := B8.mono hb
     replace B6 := B6.mono hb
     replace B3 := B3.mono hb
     replace B4 := B4.mono hb
     replace Be := Be.mono hb
     replace h8 := h8.mono hb
     replace B5 := OwnG.mono PC.kept B5 hb
     clear hb
     obtain ⟨D1, Cg⟩ : ∃ s : Int, s = sgQ ((((k : Int) : Rat)) - (taQ T (T.length - 1))) := ⟨_, rfl⟩
     rw [← Cg]
     replace Cg := Lib.hid Cg
     by_cases Cx : taQ T (T.length - 1) < ((k : Int) : Rat)
     ·have Dr : 0 < D1 := by have h := sq_gt (((k : Int) : Rat)) (taQ T (T.length - 1)); rw [← Cg.out] at h; exact h.2 Cx
      have Dv := Lib.hid Cx
      clear Cx
      have J6 : decide (0 < D1) = true := decide_eq_true Dr
      have Cd := B1.a0
      have Ce := B1.a1
      have Cf := B1.a2
      have Cu := B1.lt
      have Ck := B6.a0
      have Cl := B6.a1
      have Cm := B6.a2
      have fat := B6.free
      have D7 := B6.lt
      go_wp2_with fail
      clear Cd Ce Cf Ck Cl Cm fat Cu D7
      refine Calls.abs ?_
      intro C9 hW
      have hG : Gr [w24.heap.size] Cc C9 := by rw [hW]; exact (Gr.refl _ _).set.set.set
      have D8 := hs.size
      have lat := B6.lt
      have C6 : Below w.heap.size Cc C9 := hG.below1 hs.size (by first | omega | assumption)
      have hk : KeepD Cc C9 := hG.keep ⟨⟨_, B6.ty, by decide⟩, True.intro⟩
      have D2 : Bx C9 (w24.heap.size) 32 #[.bool C4, .slice C1 C5 C3, .slice By C0 Bz] := by rw [hW]; exact B6.set3
      replace hs := hs.trans C6
      replace B5 := OwnG.gr PC.kept B5 hG (notMem1 (by omega)) hk
      replace B0 := hG.bx B0 (notMem1 (by omega))
      replace B1 := hG.bx B1 (notMem1 (by omega))
      replace B8 := hG.bx B8 (notMem1 (by omega))
      replace B6 := D2
      clear D2
      replace B3 := B3.keep hk
      replace B4 := B4.keep hk
      replace Be := Be.keep hk
      replace h8 := h8.keep hk
      clear hW hG hk C6 D8 lat
      with_reducible refine (sc_value _ T _ (taQ T (T.length - 1)) _ _ _ (HL.out.mono (C2.kept PC.kept) hs) Ci HZ.out B4 (SzQ.mono ((HZ.out (T.length - 1) (by omega)).1) (by decide)) (valQ_hi HAS.out Ci)).mono ?_
      rintro e Bm ⟨_, _, rfl, C8, rfl, hb⟩
      obtain ⟨Ds, Dh, Dq, Di, Dc, Df, Dd, rfl⟩ := C8.shape
      clear h8
      replace hs := bStep hs hb
      replace B0 := B0.mono hb
      replace B1 := B1.mono hb
      replace B8 := B8.mono hb
      replace B6 := B6.mono hb
      replace B3 := B3.mono hb
      replace B4 := B4.mono hb
      replace Be := Be.mono hb
      replace B5 := OwnG.mono PC.kept B5 hb
      clear hb
      have Dk := B8.a0
      have Dl := B8.a1
      have Dm := B8.a2
      have Lx := B8.lt
      go_wp2_with fail
      clear Dk Dl Dm Lx
      have J4 := B5.lt
      refine Calls.abs ?_
      intro Cj hW
      have hG : Gr [] Bm Cj := by rw [hW]; exact (Gr.refl _ _).alloc
      have C6 : Below w.heap.size Bm Cj := hG.below0 hs.size
      have hk : KeepD Bm Cj := hG.keep True.intro
      have J8 : w.heap.size ≤ Bm.heap.size := hs.size
      have Dt := B0.lt
      have E5 := B1.lt
      have J5 := B8.lt
      have El := B6.lt
      have Ea := B5.lt
      have Ch : Bx Cj (Bm.heap.size) 32 #[.bool Ds, .slice Dh Dq Di, .slice Dc Df Dd] := by rw [hW]; exact (Bx.new0 _ _ _)
      replace hs := hs.trans C6
      replace B5 := OwnG.mono PC.kept B5 (hG.below0 (Nat.le_refl _))
      replace B0 := hG.bx B0 notMem0
      replace B1 := hG.bx B1 notMem0
      replace B8 := hG.bx B8 notMem0
      replace B6 := hG.bx B6 notMem0
      replace B3 := B3.keep hk
      replace B4 := B4.keep hk
      replace Be := Be.keep hk
      replace C8 := C8.keep hk
      clear hW hG hk C6
      have J0 := Ch.lt
      with_reducible refine (pMul Be C8 (SzQ.fit (HLZ.out k (by omega))) (SzQ.fit ((HZ.out (T.length - 1) (by omega)).2.mono (show 1 ≤ 400 by decide)))).mono ?_
      rintro e Ct ⟨_, rfl, Cs, hb⟩
      obtain ⟨J7, Ev, J3, Ex, Ep, Et, Eq, rfl⟩ := Cs.shape
      replace hs := bStep hs hb
      replace B0 := B0.mono hb
      replace B1 := B1.mono hb
      replace B8 := B8.mono hb
      replace B6 := B6.mono hb
      replace Ch := Ch.mono hb
      replace B3 := B3.mono hb
      replace B4 := B4.mono hb
      replace Be := Be.mono hb
      replace C8 := C8.mono hb
      replace B5 := OwnG.mono PC.kept B5 hb
      clear hb
      obtain ⟨Ez, Eu, J1, Ew, Eo, Es, Er, D3, D4, D5, Cr, Dp⟩ := ownP_at B5 (show k < (corP T L k).length by (rw [corP_len]; omega))
      rw [corP_at (show k < L.length by omega)] at Cr
      have Dn := B5.free
      have De := B5.lt
      go_upto_region 18 with fail
      clear Dn De Dp D3 D4 D5
      refine Code.abs ?_
      intro D9 hW
      have hG : Gr [C7] Ct D9 := by rw [hW]; exact (Gr.refl _ _).set.set.set
      have D8 := hs.size
      have C6 : Below w.heap.size Ct D9 := hG.below1 hs.size (by first | omega | assumption)
      have hk : KeepD Ct D9 := hG.keep ⟨⟨_, B5.ty, by decide⟩, True.intro⟩
      have Cn : OwnG w.heap.size 32 3 PC Dj D9 (C7) ((corP T L k).set k (nthQ L k * (vaQ T (T.length - 1)))) := by rw [hW]; exact B5.put3 PC.kept (show k < (corP T L k).length by rw [corP_len]; omega) (by decide) ⟨_, _, _, rfl, Cs⟩ ((Gr.refl _ _))
      rw [(corP_step (show k < L.length by omega) (facQ_hi Du.out Dv.out))] at Cn
      replace hs := hs.trans C6
      replace B0 := hG.bx B0 (notMem1 (by omega))
      replace B1 := hG.bx B1 (notMem1 (by omega))
      replace B8 := hG.bx B8 (notMem1 (by omega))
      replace B6 := hG.bx B6 (notMem1 (by omega))
      replace Ch := hG.bx Ch (notMem1 (by omega))
      replace B5 := Cn
      clear Cn
      replace B3 := B3.keep hk
      replace B4 := B4.keep hk
      replace Be := Be.keep hk
      replace C8 := C8.keep hk
      replace Cs := Cs.keep hk
      replace Cr := Cr.keep hk
      clear hW hG hk C6 D8
      go_wp2
      go_roundw
      case rel => exact ⟨k + 1, by omega, by go_num, hs, B0, B1, B3, B4, B5⟩
      all_goals first | (simp [intOf]; done) | (simp [intOf]; omega)
     ·have Dr : ¬ (0 < D1) := by have h := sq_gt (((k : Int) : Rat)) (taQ T (T.length - 1)); rw [← Cg.out] at h; exact fun h1 => Cx (h.1 h1)
      have Dv := Lib.hid Cx
      clear Cx
      have J6 : decide (0 < D1) = false := decide_eq_false Dr
      have Ck := B6.a0
      have Cl := B6.a1
      have Cm := B6.a2
      have D7 := B6.lt
      go_wp2_with fail
      clear Ck Cl Cm D7
      with_reducible refine (sc_value _ T _ (((k : Int) : Rat)) _ _ _ (HL.out.mono (C2.kept PC.kept) hs) Ci HZ.out h8 (SzQ.mono (szQ_int (by omega)) (by decide)) (valQ_pair T _)).mono ?_
      rintro e C9 ⟨_, _, rfl, C8, rfl, hb⟩
      obtain ⟨Ds, Dh, Dq, Di, Dc, Df, Dd, rfl⟩ := C8.shape
      replace hs := bStep hs hb
      replace B0 := B0.mono hb
      replace B1 := B1.mono hb
      replace B8 := B8.mono hb
      replace B6 := B6.mono hb
      replace B3 := B3.mono hb
      replace B4 := B4.mono hb
      replace Be := Be.mono hb
      replace h8 := h8.mono hb
      replace B5 := OwnG.mono PC.kept B5 hb
      clear hb
      have Dk := B8.a0
      have Dl := B8.a1
      have Dm := B8.a2
      have Lx := B8.lt
      go_wp2_with fail
      clear Dk Dl Dm Lx
      have J4 := B5.lt
      refine Calls.abs ?_
      intro Bm hW
      have hG : Gr [] C9 Bm := by rw [hW]; exact (Gr.refl _ _).alloc
      have C6 : Below w.heap.size C9 Bm := hG.below0 hs.size
      have hk : KeepD C9 Bm := hG.keep True.intro
      have sz_w29 : w.heap.size ≤ C9.heap.size := hs.size
      have Jf := B0.lt
      have Ji := B1.lt
      have nx_w29 := B8.lt
      have Jp := B6.lt
      have Jo := B5.lt
      have Ch : Bx Bm (C9.heap.size) 32 #[.bool Ds, .slice Dh Dq Di, .slice Dc Df Dd] := by rw [hW]; exact (Bx.new0 _ _ _)
      replace hs := hs.trans C6
      replace B5 := OwnG.mono PC.kept B5 (hG.below0 (Nat.le_refl _))
      replace B0 := hG.bx B0 notMem0
      replace B1 := hG.bx B1 notMem0
      replace B8 := hG.bx B8 notMem0
      replace B6 := hG.bx B6 notMem0
      replace B3 := B3.keep hk
      replace B4 := B4.keep hk
      replace Be := Be.keep hk
      replace h8 := h8.keep hk
      replace C8 := C8.keep hk
      clear hW hG hk C6
      have hz_w29 := Ch.lt
      with_reducible refine (pMul Be C8 (SzQ.fit (HLZ.out k (by omega))) (SzQ.fit (valQ_sz HZ.out (SzQ.mono (szQ_int (by omega)) (by decide))))).mono ?_
      rintro e Cj ⟨_, rfl, Cs, hb⟩
      obtain ⟨J7, Ev, J3, Ex, Ep, Et, Eq, rfl⟩ := Cs.shape
      replace hs := bStep hs hb
      replace B0 := B0.mono hb
      replace B1 := B1.mono hb
      replace B8 := B8.mono hb
      replace B6 := B6.mono hb
      replace Ch := Ch.mono hb
      replace B3 := B3.mono hb
      replace B4 := B4.mono hb
      replace Be := Be.mono hb
      replace h8 := h8.mono hb
      replace C8 := C8.mono hb
      replace B5 := OwnG.mono PC.kept B5 hb
      clear hb
      obtain ⟨Ez, Eu, J1, Ew, Eo, Es, Er, D3, D4, D5, Cr, Dp⟩ := ownP_at B5 (show k < (corP T L k).length by (rw [corP_len]; omega))
      rw [corP_at (show k < L.length by omega)] at Cr
      have Dn := B5.free
      have De := B5.lt
      go_upto_region 18 with fail
      clear Dn De Dp D3 D4 D5
      refine Code.abs ?_
      intro Ct hW
      have hG : Gr [C7] Cj Ct := by rw [hW]; exact (Gr.refl _ _).set.set.set
      have D8 := hs.size
      have C6 : Below w.heap.size Cj Ct := hG.below1 hs.size (by first | omega | assumption)
      have hk : KeepD Cj Ct := hG.keep ⟨⟨_, B5.ty, by decide⟩, True.intro⟩
      have Cn : OwnG w.heap.size 32 3 PC Dj Ct (C7) ((corP T L k).set k (nthQ L k * ((valQ T (((k : Int) : Rat))).1))) := by rw [hW]; exact B5.put3 PC.kept (show k < (corP T L k).length by rw [corP_len]; omega) (by decide) ⟨_, _, _, rfl, Cs⟩ ((Gr.refl _ _))
      rw [(corP_step (show k < L.length by omega) (facQ_in Du.out Dv.out))] at Cn
      replace hs := hs.trans C6
      replace B0 := hG.bx B0 (notMem1 (by omega))
      replace B1 := hG.bx B1 (notMem1 (by omega))
      replace B8 := hG.bx B8 (notMem1 (by omega))
      replace B6 := hG.bx B6 (notMem1 (by omega))
      replace Ch := hG.bx Ch (notMem1 (by omega))
      replace B5 := Cn
      clear Cn
      replace B3 := B3.keep hk
      replace B4 := B4.keep hk
      replace Be := Be.keep hk
      replace h8 := h8.keep hk
      replace C8 := C8.keep hk
      replace Cs := Cs.keep hk
      replace Cr := Cr.keep hk
      clear hW hG hk C6 D8
      go_wp2
      go_roundw
      case rel => exact ⟨k + 1, by omega, by go_num, hs, B0, B1, B3, B4, B5⟩
      all_goals first | (simp [intOf]; done) | (simp [intOf]; omega)
   ·have q4d : ((k : Int) < (L.length : Int)) = False := eq_false (by omega)
    obtain rfl : k = L.length := by omega
    go_wp2
    go_ret2
    exact ⟨_, _, rfl, (by have h := OwnR.rows B5; rw [corP_len] at h; exact h), rfl, hs⟩
theorem sc_Corrected (vy vt : Value) (ys : List Nat) (T : List Stp) (w : World) (hy : RowsI 1 F32 w vy (ys.map fun x => (x, flQ (cvF x)))) (hl : Rows 6 153 (C2 PC) w vt T) (hz : TabSz T) :
  Calls Tryz.prog 29 #[vy, vt] w (Ret2 (fun w v => Rows 3 32 PC w v (corV ys T)) (fun _ v => v = .int .i64 (corE ys T)) w) := by
 have Do : (ys.map fun x => (x, flQ (cvF x))).length = ys.length := List.length_map _
 have hmap : (ys.map fun x => (x, flQ (cvF x))).map Prod.snd = yQ ys := by unfold yQ; rw [List.map_map]; rfl
 have hll : (yQ ys).length = ys.length := by unfold yQ; exact List.length_map _
 have hB := fun (w' : World) (hb : Below w.heap.size w w') => sc_checkSteps vt T w' _ (hl.mono (C2.kept PC.kept) hb) hz rfl
 obtain ⟨ao, Ca, hvy, hc1, hc2, hc3⟩ := hy.slice
 subst hvy
 obtain ⟨Da, rc, hvt, hc1, hc2, hc3⟩ := hl.slice
 subst hvt
 by_cases h256 : 256 < ys.length
 ·have et : traceE ys = 4 := by unfold traceE; rw [if_pos h256]
  have e3 : corE ys T = 4 := by unfold corE; rw [et]; rfl
  have e4 : corV ys T = [] := by unfold corV; rw [if_neg (by rw [e3]; decide)]
  rw [e3, e4]
  refine (sc_Corrected_err1 ao _ Ca Da rc [] T 4 w (fun w1 hb => sc_exact_long _ _ w1 (hy.mono F32.kept hb) (by rw [Do]; exact h256)) (by decide)).mono ?_
  rintro e w1 ⟨_, _, rfl, rfl, h2, h3⟩
  exact ⟨_, _, rfl, Rows.nil_ _, h2, h3⟩
 ·by_cases ho : ys.any (fun x => decide (f32E x = 255)) = true
  ·have et : traceE ys = 1 := by unfold traceE; rw [if_neg h256, if_pos ho]
   have e3 : corE ys T = 1 := by unfold corE; rw [et]; rfl
   have e4 : corV ys T = [] := by unfold corV; rw [if_neg (by rw [e3]; decide)]
   rw [e3, e4]
   obtain ⟨m, hm, Ci, h2⟩ := first_odd ys ho
   refine (sc_Corrected_err1 ao _ Ca Da rc [] T 1 w (fun w1 hb => sc_exact_bad _ _ w1 (hy.mono F32.kept hb) (by rw [Do]; omega) m (by rw [Do]; exact hm) (fun i x hi hx => ?_) fun x hx => ?_) (by decide)).mono ?_
   ·rw [List.getElem?_map] at hx
    obtain ⟨y, hy, rfl⟩ := Option.map_eq_some_iff.1 hx
    exact flok_of (Ci i y hi hy)
   ·rw [List.getElem?_map] at hx
    obtain ⟨y, hy, rfl⟩ := Option.map_eq_some_iff.1 hx
    exact h2 y hy
   ·rintro e w1 ⟨_, _, rfl, rfl, h2, h3⟩
    exact ⟨_, _, rfl, Rows.nil_ _, h2, h3⟩
  ·have hno : ∀ y ∈ ys, f32E y ≠ 255 := fun y hy hE => ho (List.any_eq_true.2 ⟨y, hy, decide_eq_true hE⟩)
   have et : traceE ys = 0 := by unfold traceE; rw [if_neg h256, if_neg ho]
   have hX : ∀ w1 : World, Below w.heap.size w w1 → Calls Tryz.prog 67 #[.slice ao (ys.map fun x => (x, flQ (cvF x))).length Ca] w1 (Ret2 (fun w2 v => OwnR w1.heap.size 32 3 PC w2 v (yQ ys)) (fun _ v => v = .int .i64 0) w1) := fun w1 hb => by
    have := sc_exact_own _ _ w1 (hy.mono F32.kept hb) (by rw [Do]; omega) (fun x hx => by
     obtain ⟨y, hy, rfl⟩ := List.mem_map.1 hx
     exact flok_of (hno y hy))
    rwa [hmap] at this
   by_cases e2 : tabE T = 0
   ·have e3 : corE ys T = 0 := by unfold corE; rw [if_pos et, e2]
    have e4 : corV ys T = corP T (yQ ys) (yQ ys).length := by unfold corV; rw [if_pos e3, corP_all, hll]
    rw [e3, e4]
    rw [e2] at hB
    have Ci := (tabE_ok e2).1
    obtain ⟨rb, ro, rc', hv, -, -, -⟩ := hl.open_ (by omega)
    obtain ⟨rfl, rfl⟩ := sliceE hv
    by_cases h0 : (yQ ys).length = 0
    ·exact sc_Corrected_nil ao _ Ca rb ro rc (yQ ys) T w (fun w1 hb => by rw [show (ys.map fun x => (x, flQ (cvF x))).length = 0 by rw [Do]; omega]; exact sc_exact_nil ao Ca w1) hB hl hz e2 Ci Ci (tabE_ok e2).2.1 (hl.lt (by omega)) h0
    ·refine sc_Corrected_ok ao _ Ca rb ro rc (yQ ys) T w hX hB hl hz e2 Ci Ci (tabE_ok e2).2.1 (hl.lt (by omega)) (fun i hi => ?_) (by omega) (by omega)
     have hx := nthQ_some hi
     unfold yQ at hx
     rw [List.getElem?_map] at hx
     obtain ⟨y, hy', hq⟩ := Option.map_eq_some_iff.1 hx
     unfold yQ
     rw [← hq]
     exact flQ_sz (cv_fin (hno y (List.mem_of_getElem? hy'))).2
   ·have e3 : corE ys T = tabE T := by unfold corE; rw [if_pos et]
    have e4 : corV ys T = [] := by unfold corV; rw [if_neg (by rw [e3]; exact e2)]
    rw [e3, e4]
    refine (sc_Corrected_err2 ao _ Ca Da rc (yQ ys) T _ w hX hB e2).mono ?_
    rintro e w1 ⟨_, _, rfl, rfl, h2, h3⟩
    exact ⟨_, _, rfl, Rows.nil_ _, h2, h3⟩
end Go.Proofs.YtkfekkhhfpkfaaaGreat
