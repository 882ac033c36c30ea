/-
  The contract of scan's Echoes: the echoes.
-/
import Derived.Test.YtkfekkhhfpkfaaaGreatPkEcho
set_option linter.unusedSimpArgs false
set_option linter.unusedVariables false
namespace Go.Proofs.YtkfekkhhfpkfaaaGreat
open Go.RowKit Dg
attribute [local go_sem ↓] Go.wp_at_zero Go.wp_at_succ

attribute [local go_sem] Oper.semAt_some
theorem echoP_info : (Tryz.prog.info? 123).map (fun i => (i.zero, i.size, i.bytes)) = some (some (.agg #[.bool false, .slice none 0 0, .slice none 0 0, .bool false, .slice none 0 0, .slice none 0 0]), 6, 112) := by kernel_rfl

set_option maxRecDepth 100000 in
set_option maxHeartbeats 16000000 in
theorem sc_Echoes_ok (v : Value) (l : List Lay) (B : Nat) (w : World) (hl : Rows 9 120 (C3 PC) w v l) (h1 : 2 ≤ l.length) (h2 : l.length ≤ 12) (hp : l.all layPos = true) (hB : B ≤ 1000) (hz : ∀ x ∈ l, LaySz B x) :
    Calls Tryz.prog 49 #[v] w (Ret2 (fun w v => Rows 6 123 (C2 PC) w v (echoQ l (l.length - 1))) (fun _ v => v = .int .i64 0) w) := by
  obtain ⟨ao, cap, rfl, hc1, hc2, hc3⟩ := hl.slice
  have hs := Below.refl w.heap.size w
  have HL := Lib.hid hl
  have HPT := Lib.hid hp
  have HZ := Lib.hid hz
  have HFT := Lib.hid (fun k (hk : k + 1 < l.length) => echo_fits hz (List.all_eq_true.1 hp) hB h2 hk)
  clear hl hp hz
  refine (callsIn_wide (n := 2)).1 (callsIn_of_wp_marks Tryz.func49 rfl trivial ?_)
  simp only [Tryz.ntmps49, List.size_toArray, List.length_cons, List.length_nil, Nat.reduceAdd, Nat.reduceSub, Array.replicate_succ,
     Array.replicate_zero, List.push_toArray, List.append_toArray, List.nil_append, List.cons_append]
  refine wpIn_wide.2 ?_
  go_wp2
  go_loopw [20] (fun iv wr => ∃ k : Nat, k ≤ l.length ∧ iv = .int .i64 k ∧ (l.take k).all layPos = true ∧ Below w.heap.size w wr) (fun iv _ => l.length - (intOf iv).toNat)
  case atStart => exact ⟨0, Nat.zero_le _, rfl, rfl, hs⟩
  case round =>
    obtain ⟨k, hk, rfl, hp, hs⟩ := hrel
    have HP := Lib.hid hp
    clear hp
    by_cases hlt : k < l.length
    · obtain ⟨x, hx⟩ : ∃ x, l[k]? = some x := ⟨_, List.getElem?_eq_getElem hlt⟩
      obtain ⟨bx, ox, dx, csx, hvx, hlenx, hatx, hcx⟩ := (HL.out.mono (C3.kept PC.kept) hs).get hx
      obtain ⟨rfl, rfl⟩ := sliceE hvx
      obtain ⟨gx1, ax1, nx1, cx1, Ax1, Nx1, Dx1, gx2, ax2, nx2, cx2, Ax2, Nx2, Dx2, gx3, ax3, nx3, cx3, Ax3, Nx3, Dx3, rfl, hx1, hx2, hx3⟩ := hcx.openP
      have Ex0 := hatx 0 _ rfl
      have Ex1 := hatx 1 _ rfl
      have Ex2 := hatx 2 _ rfl
      have Ex3 := hatx 3 _ rfl
      have Ex4 := hatx 4 _ rfl
      have Ex5 := hatx 5 _ rfl
      have Ex6 := hatx 6 _ rfl
      have Ex7 := hatx 7 _ rfl
      have Ex8 := hatx 8 _ rfl
      simp only [Nat.add_zero] at Ex0
      clear hatx hcx hlenx
      have hLx : bx < w.heap.size := by have := HL.out.lt (by omega); omega
      have HT := Lib.hid (layPos_take l k x hx HP.out)
      clear hx
      go_wp2_with fail
      refine Calls.abs ?_
      intro w1 hW
      have hsz := hs.size
      have hbw : Below w.heap.size wr w1 := by rw [hW]; exact (Below.alloc (Below.alloc (Below.refl w.heap.size wr) (by first | exact hs.size | (have := hs.size; simp; done) | (have := hs.size; simp; omega)) _) (by first | exact hs.size | (have := hs.size; simp; done) | (have := hs.size; simp; omega)) _)
      have hs1 : Below w.heap.size w w1 := hs.trans hbw
      have hk : KeepD wr w1 := by rw [hW]; exact (((KeepD.refl _).alloc _).alloc _)
      have Bl1y : Bx w1 (wr.heap.size) 120 #[.bool gx1, .slice ax1 nx1 cx1, .slice Ax1 Nx1 Dx1, .bool gx2, .slice ax2 nx2 cx2, .slice Ax2 Nx2 Dx2, .bool gx3, .slice ax3 nx3 cx3, .slice Ax3 Nx3 Dx3] := by rw [hW]; exact ((Bx.new' _ _ _ _ (by first | rfl | (simp; done))).alloc _)
      have Bl1s : Bx w1 (wr.heap.size + 1) 32 #[.bool gx1, .slice ax1 nx1 cx1, .slice Ax1 Nx1 Dx1, .bool gx2, .slice ax2 nx2 cx2, .slice Ax2 Nx2 Dx2, .bool gx3, .slice ax3 nx3 cx3, .slice Ax3 Nx3 Dx3] := by rw [hW]; exact (Bx.new' _ _ _ _ (by first | rfl | (simp; done)))
      replace hs := hs1
      clear hs1
      have Bly := Bl1y
      clear Bl1y
      have Bls := Bl1s
      clear Bl1s
      replace hx1 := hx1.keep hk
      replace hx2 := hx2.keep hk
      replace hx3 := hx3.keep hk
      replace Ex0 := cellB Ex0 hbw (by first | assumption | (show _ < _; omega))
      replace Ex1 := cellB Ex1 hbw (by first | assumption | (show _ < _; omega))
      replace Ex2 := cellB Ex2 hbw (by first | assumption | (show _ < _; omega))
      replace Ex3 := cellB Ex3 hbw (by first | assumption | (show _ < _; omega))
      replace Ex4 := cellB Ex4 hbw (by first | assumption | (show _ < _; omega))
      replace Ex5 := cellB Ex5 hbw (by first | assumption | (show _ < _; omega))
      replace Ex6 := cellB Ex6 hbw (by first | assumption | (show _ < _; omega))
      replace Ex7 := cellB Ex7 hbw (by first | assumption | (show _ < _; omega))
      replace Ex8 := cellB Ex8 hbw (by first | assumption | (show _ < _; omega))
      clear hW hk hsz hbw
      have hz_w1 : wr.heap.size + 1 < w1.heap.size := Bls.lt
      refine (sc_above _ [x.1, x.2.1, x.2.2] _ (rows3 Bls hx1 hx2 hx3)).mono ?_
      rintro e w2 ⟨rfl, hb⟩
      replace hs := bStep hs hb
      replace Bly := Bly.mono hb
      replace Bls := Bls.mono hb
      replace hx1 := hx1.mono hb
      replace hx2 := hx2.mono hb
      replace hx3 := hx3.mono hb
      replace Ex0 := cellK Ex0 hb
      replace Ex1 := cellK Ex1 hb
      replace Ex2 := cellK Ex2 hb
      replace Ex3 := cellK Ex3 hb
      replace Ex4 := cellK Ex4 hb
      replace Ex5 := cellK Ex5 hb
      replace Ex6 := cellK Ex6 hb
      replace Ex7 := cellK Ex7 hb
      replace Ex8 := cellK Ex8 hb
      clear hb
      rw [allPos_lay]
      have HX := HT.out
      clear HT
      generalize layPos x = px at *
      cases px
      · have := layPos_false l (k + 1) HX
        rw [HPT.out] at this
        cases this
      · have HF := Lib.hid HX
        clear HX
        go_wp2
        go_roundw
        case rel => exact ⟨k + 1, by omega, by go_num, HF.out, hs⟩
        all_goals first | (simp [intOf]; done) | (simp [intOf]; omega)
    · obtain rfl : k = l.length := by omega
      clear HP
      have hgr := hs.size
      obtain ⟨i0, hi, hz0, hz1, hz2⟩ := info_parts echoP_info
      go_wp2_with fail
      refine Calls.abs ?_
      intro w1 hW
      have hsz := hs.size
      have hbw : Below w.heap.size wr w1 := by rw [hW]; exact (Below.alloc (Below.refl w.heap.size wr) (by first | exact hs.size | (have := hs.size; simp; done) | (have := hs.size; simp; omega)) _)
      have hs1 : Below w.heap.size w w1 := hs.trans hbw
      have hk : KeepD wr w1 := by rw [hW]; exact ((KeepD.refl _).alloc _)
      have Bl1o : Bx w1 (wr.heap.size) 116 #[.slice none 0 0] := by rw [hW]; exact (Bx.new' _ _ _ _ (by first | rfl | (simp; done)))
      replace hs := hs1
      clear hs1
      have Blo := Bl1o
      clear Bl1o
      clear hW hk hsz hbw
      have hz_w1 : wr.heap.size < w1.heap.size := Blo.lt
      refine (sc_whole 1 _ (by decide) (by decide)).mono ?_
      rintro e w2 ⟨_, rfl, hz, hb⟩
      obtain ⟨shz, ahz, nhz, chz, Ahz, Nhz, Chz, rfl⟩ := hz.shape
      replace hs := bStep hs hb
      replace Blo := Blo.mono hb
      clear hb
      replace hz := hz.of_eq (show ((1 : Int) : Rat) = 1 from rfl)
      have q1 := Blo.lt
      go_wp2_with fail
      refine Calls.abs ?_
      intro w3 hW
      have hsz := hs.size
      have lo := Blo.lt
      have hbw : Below w.heap.size w2 w3 := by rw [hW]; exact (Below.alloc (Below.refl w.heap.size w2) (by first | exact hs.size | (have := hs.size; simp; done) | (have := hs.size; simp; omega)) _)
      have hs1 : Below w.heap.size w w3 := hs.trans hbw
      have hk : KeepD w2 w3 := by rw [hW]; exact ((KeepD.refl _).alloc _)
      have Bl1o : Bx w3 (wr.heap.size) 116 #[.slice none 0 0] := by rw [hW]; exact (Blo.alloc _)
      have Bl1s : Bx w3 (w2.heap.size) 32 #[.bool shz, .slice ahz nhz chz, .slice Ahz Nhz Chz] := by rw [hW]; exact (Bx.new' _ _ _ _ (by first | rfl | (simp; done)))
      replace hs := hs1
      clear hs1
      replace Blo := Bl1o
      clear Bl1o
      have Bls := Bl1s
      clear Bl1s
      replace hz := hz.keep hk
      clear hW hk hsz hbw lo
      have hz_w3 : w2.heap.size < w3.heap.size := Bls.lt
      have q2 := Bls.lt
      refine (sc_boundaries _ _ _ _).mono ?_
      rintro e w4 ⟨rfl, Blq, hb⟩
      replace hs := bStep hs hb
      replace Blo := Blo.mono hb
      replace Bls := Bls.mono hb
      replace hz := hz.mono hb
      clear hb
      go_wp2_with fail
      refine (wpIn_wide (n := 2)).1 (rangeJoint rfl (by omega) (gf := 156) (lb := #[.pointer (some ⟨w3.heap.size, 0, none⟩)]) rfl trivial (enters_of Tryz.func156 (by kernel_rfl) rfl) ?_)
      intro rec lp D W1 hlp hD hW1 hyl
      have le := Blo.lt
      have ls := Bls.lt
      have lq := Blq.lt
      have hn := hs.size
      have n1 : W1.heap.size = w4.heap.size + 2 := by rw [hW1]; simp
      have hb : Below w4.heap.size w4 W1 := by rw [hW1]; exact ((Below.refl _ _).alloc (Nat.le_refl _) _).alloc (by simp) _
      have e1 : W1.heap[lp]? = some (.loop (rec .ready none)) := by rw [hW1, hlp]; have := World.alloc_heap_new (w4.alloc (.deferred (some []))) (.loop (rec .ready none)); rwa [World.size_alloc] at this
      have e2 : W1.heap[D]? = some (.deferred (some [])) := by rw [hW1, hD]; exact (Below.heap_alloc _ _ _ (by simp)).trans (World.alloc_heap_new w4 _)
      have HJ0 : EJ w lp D (rec .ready none) (wr.heap.size) (w2.heap.size) (w3.heap.size) (.slice ao l.length cap) l 0 W1 := ⟨e1, e2, bStep hs hb, Blq.mono hb, ⟨_, _, _, _, _, _, _, Bls.mono hb, hz.mono hb⟩, _, Blo.mono hb, OwnR.nil _ _ _ _ _⟩
      refine callsIn_wide.2 ?_
      refine (bnd_in lp (w3.heap.size) (.slice ao l.length cap) l B (fun k W => EJ w lp D (rec .ready none) (wr.heap.size) (w2.heap.size) (w3.heap.size) (.slice ao l.length cap) l k W) w W1 HL.out h1 h2 (List.all_eq_true.1 HPT.out) hB HZ.out (by omega) (by omega) (fun k W h => ⟨h.2.2.1, h.2.2.2.1.at 0 rfl⟩) EJ.below (fun k W b h hb ht j x => EJ.set (by omega) (by omega) (by omega) (by omega) (by omega) (by omega) k W b h hb ht j x) ?hy HJ0).mono ?done
      case hy =>
        clear Blo Bls Blq hz hs hW1 hb e1 e2 HJ0
        intro k W vt vr hk hJ hnn ht hr
        obtain ⟨sht, aht, nht, cht, Aht, Nht, Cht, rfl⟩ := ht.shape
        obtain ⟨shr, ahr, nhr, chr, Ahr, Nhr, Chr, rfl⟩ := hr.shape
        refine hyl #[_, _] W _ rfl hJ.1 ?_
        clear hyl
        gi_wp2
        obtain ⟨W2, hW2⟩ : ∃ W2, (W.alloc (.cells #[.bool sht, .slice aht nht cht, .slice Aht Nht Cht] 32)).alloc (.cells #[.bool shr, .slice ahr nhr chr, .slice Ahr Nhr Chr] 32) = W2 := ⟨_, rfl⟩
        rw [hW2]
        have hb : Below W.heap.size W W2 := by rw [← hW2]; exact ((Below.refl _ _).alloc (Nat.le_refl _) _).alloc (by simp) _
        have Blt : Bx W2 W.heap.size 32 #[.bool sht, .slice aht nht cht, .slice Aht Nht Cht] := by rw [← hW2]; exact (Bx.new _ _ _).alloc _
        have Blr : Bx W2 (W.heap.size + 1) 32 #[.bool shr, .slice ahr nhr chr, .slice Ahr Nhr Chr] := by rw [← hW2]; exact Bx.new' _ _ _ _ (by simp)
        have hJ2 := EJ.below k W W2 hJ hb
        have hl2 := hJ2.1
        refine ⟨hl2, ?_⟩
        have hJ3 := EJ.put (L' := rec .busy none) hJ2 (by omega) (by omega)
        obtain ⟨W3, hW3⟩ : ∃ W3, W2.putObj lp (.loop (rec .busy none)) = W3 := ⟨_, rfl⟩
        rw [hW3] at hJ3 ⊢
        replace Blt : Bx W3 W.heap.size 32 #[.bool sht, .slice aht nht cht, .slice Aht Nht Cht] := by rw [← hW3]; exact Blt.putL hl2
        replace Blr : Bx W3 (W.heap.size + 1) 32 #[.bool shr, .slice ahr nhr chr, .slice Ahr Nhr Chr] := by rw [← hW3]; exact Blr.putL hl2
        replace ht : PV W3 (.agg #[.bool sht, .slice aht nht cht, .slice Aht Nht Cht]) (tmQ l (k + 1)) := by rw [← hW3]; exact (ht.mono hb).keep (.putL hl2)
        replace hr : PV W3 (.agg #[.bool shr, .slice ahr nhr chr, .slice Ahr Nhr Chr]) (rfQ l k) := by rw [← hW3]; exact (hr.mono hb).keep (.putL hl2)
        have hT : Tk W1.heap.size lp D (rec .busy none) W3 W3 := ⟨Nat.le_refl _, fun _ _ _ _ _ => rfl, hJ3.1, hJ3.2.1, KeepD.refl _⟩
        have HRD : ∀ W', Tk W1.heap.size lp D (rec .busy none) W3 W' → _ := fun W' h => Tk.round (L1 := rec .ready none) (lp := lp) (n1 := W1.heap.size) (D := D) (L := rec .busy none) (W3 := W') hb hl2 (by rw [hW3]; exact h)
        replace HRD := Lib.hid HRD
        obtain ⟨-, -, hs, Blq, ⟨shz, ahz, nhz, chz, Ahz, Nhz, Chz, Bls, hz⟩, ov, Blo, Oout⟩ := hJ3
        clear hJ hJ2 hb hl2 hW2 hW3
        have HFK := Lib.hid (HFT.out k hk)
        obtain ⟨_, _, e1, e2, e3, e4⟩ := HFK.out
        refine wpIn_block ?_
        refine wpIn_seq ?_
        refine R_region (S := fun w' => w'.cell? ⟨wr.heap.size, 0, none⟩ = some (ov) ∧ w'.cell? ⟨W.heap.size, 0, none⟩ = some (.bool sht) ∧ w'.cell? ⟨W.heap.size, 1, none⟩ = some (.slice aht nht cht) ∧ w'.cell? ⟨W.heap.size, 2, none⟩ = some (.slice Aht Nht Cht) ∧ w'.cell? ⟨w2.heap.size, 0, none⟩ = some (.bool shz) ∧ w'.cell? ⟨w2.heap.size, 1, none⟩ = some (.slice ahz nhz chz) ∧ w'.cell? ⟨w2.heap.size, 2, none⟩ = some (.slice Ahz Nhz Chz) ∧ w'.cell? ⟨W.heap.size + 1, 0, none⟩ = some (.bool shr) ∧ w'.cell? ⟨W.heap.size + 1, 1, none⟩ = some (.slice ahr nhr chr) ∧ w'.cell? ⟨W.heap.size + 1, 2, none⟩ = some (.slice Ahr Nhr Chr)) (by kernel_rfl) (fun _ _ h => by have h' := And.left h; cases h') (by kernel_rfl) 8 ?_
        refine AnyU.abs ?_
        intro w41 hW
        have hb : Below W3.heap.size W3 w41 := by rw [hW]; exact bDrew _
        replace hs := bStep hs hb
        replace Blo := Blo.mono hb
        replace Bls := Bls.mono hb
        replace Blq := Blq.mono hb
        replace Blt := Blt.mono hb
        replace Blr := Blr.mono hb
        replace ht := ht.mono hb
        replace hr := hr.mono hb
        replace hz := hz.mono hb
        replace Oout := Oout.mono (C2.kept PC.kept) hb
        replace hT := tkB _ _ _ hT hb
        clear hb hW
        have co_0 : w41.cell? ⟨wr.heap.size, 0, none⟩ = some (ov) := Blo.at 0 rfl
        have ct_0 : w41.cell? ⟨W.heap.size, 0, none⟩ = some (.bool sht) := Blt.at 0 rfl
        have ct_1 : w41.cell? ⟨W.heap.size, 1, none⟩ = some (.slice aht nht cht) := Blt.at 1 rfl
        have ct_2 : w41.cell? ⟨W.heap.size, 2, none⟩ = some (.slice Aht Nht Cht) := Blt.at 2 rfl
        have cs_0 : w41.cell? ⟨w2.heap.size, 0, none⟩ = some (.bool shz) := Bls.at 0 rfl
        have cs_1 : w41.cell? ⟨w2.heap.size, 1, none⟩ = some (.slice ahz nhz chz) := Bls.at 1 rfl
        have cs_2 : w41.cell? ⟨w2.heap.size, 2, none⟩ = some (.slice Ahz Nhz Chz) := Bls.at 2 rfl
        have cr_0 : w41.cell? ⟨W.heap.size + 1, 0, none⟩ = some (.bool shr) := Blr.at 0 rfl
        have cr_1 : w41.cell? ⟨W.heap.size + 1, 1, none⟩ = some (.slice ahr nhr chr) := Blr.at 1 rfl
        have cr_2 : w41.cell? ⟨W.heap.size + 1, 2, none⟩ = some (.slice Ahr Nhr Chr) := Blr.at 2 rfl
        have hH := (show w41.cell? ⟨wr.heap.size, 0, none⟩ = some (ov) ∧ w41.cell? ⟨W.heap.size, 0, none⟩ = some (.bool sht) ∧ w41.cell? ⟨W.heap.size, 1, none⟩ = some (.slice aht nht cht) ∧ w41.cell? ⟨W.heap.size, 2, none⟩ = some (.slice Aht Nht Cht) ∧ w41.cell? ⟨w2.heap.size, 0, none⟩ = some (.bool shz) ∧ w41.cell? ⟨w2.heap.size, 1, none⟩ = some (.slice ahz nhz chz) ∧ w41.cell? ⟨w2.heap.size, 2, none⟩ = some (.slice Ahz Nhz Chz) ∧ w41.cell? ⟨W.heap.size + 1, 0, none⟩ = some (.bool shr) ∧ w41.cell? ⟨W.heap.size + 1, 1, none⟩ = some (.slice ahr nhr chr) ∧ w41.cell? ⟨W.heap.size + 1, 2, none⟩ = some (.slice Ahr Nhr Chr) from ⟨co_0, ct_0, ct_1, ct_2, cs_0, cs_1, cs_2, cr_0, cr_1, cr_2⟩)
        refine U_take (i := 0) (v := ?_) rfl (by kernel_rfl) (by kernel_rfl) (by kernel_rfl) (by kernel_rfl) (fun _ _ _ h => h) (Or.inl ⟨by rfl, ?_⟩) hH ?_
        rotate_left
        · intro w hSw
          try dsimp only at hSw
          go_simp
          try with_reducible rfl
        try simp only [Act.put, List.setIfInBounds_toArray, List.set_cons_zero, List.set_cons_succ]
        refine U_take (i := 1) (v := ?_) rfl (by kernel_rfl) (by kernel_rfl) (by kernel_rfl) (by kernel_rfl) (fun _ _ _ h => h) (Or.inl ⟨by rfl, ?_⟩) hH ?_
        rotate_left
        · intro w hSw
          try dsimp only at hSw
          go_simp
          try with_reducible rfl
        try simp only [Act.put, List.setIfInBounds_toArray, List.set_cons_zero, List.set_cons_succ]
        refine U_take (i := 2) (v := ?_) rfl (by kernel_rfl) (by kernel_rfl) (by kernel_rfl) (by kernel_rfl) (fun _ _ _ h => h) (Or.inl ⟨by rfl, ?_⟩) hH ?_
        rotate_left
        · intro w hSw
          try dsimp only at hSw
          go_simp
          try with_reducible rfl
        try simp only [Act.put, List.setIfInBounds_toArray, List.set_cons_zero, List.set_cons_succ]
        refine U_take (i := 3) (v := ?_) rfl (by kernel_rfl) (by kernel_rfl) (by kernel_rfl) (by kernel_rfl) (fun _ _ _ h => h) (Or.inl ⟨by rfl, ?_⟩) hH ?_
        rotate_left
        · intro w hSw
          try dsimp only at hSw
          go_simp
          try with_reducible rfl
        try simp only [Act.put, List.setIfInBounds_toArray, List.set_cons_zero, List.set_cons_succ]
        clear hH
        refine U_one (i := 4) (by kernel_rfl) rfl (fun K hK => ?_)
        go_simp
        (with_reducible refine (pMul hz hr e2 e1).mono ?_)
        rintro e w42 ⟨_, rfl, hm, hb⟩
        obtain ⟨shm, ahm, nhm, chm, Ahm, Nhm, Chm, rfl⟩ := hm.shape
        replace hs := bStep hs hb
        replace Blo := Blo.mono hb
        replace Bls := Bls.mono hb
        replace Blq := Blq.mono hb
        replace Blt := Blt.mono hb
        replace Blr := Blr.mono hb
        replace ht := ht.mono hb
        replace hr := hr.mono hb
        replace hz := hz.mono hb
        replace Oout := Oout.mono (C2.kept PC.kept) hb
        replace hT := tkB _ _ _ hT hb
        replace co_0 := cellK co_0 hb
        replace ct_0 := cellK ct_0 hb
        replace ct_1 := cellK ct_1 hb
        replace ct_2 := cellK ct_2 hb
        replace cs_0 := cellK cs_0 hb
        replace cs_1 := cellK cs_1 hb
        replace cs_2 := cellK cs_2 hb
        replace cr_0 := cellK cr_0 hb
        replace cr_1 := cellK cr_1 hb
        replace cr_2 := cellK cr_2 hb
        clear hb
        try go_wp2_with fail
        refine hK.out _ _ ⟨co_0, ct_0, ct_1, ct_2, cs_0, cs_1, cs_2, cr_0, cr_1, cr_2⟩ (fun hH => ?_)
        clear hK K
        try simp only [Act.put, List.setIfInBounds_toArray, List.set_cons_zero, List.set_cons_succ]
        refine U_take (i := 5) (v := ?_) rfl (by kernel_rfl) (by kernel_rfl) (by kernel_rfl) (by kernel_rfl) (fun _ _ _ h => h) (Or.inl ⟨by rfl, ?_⟩) hH ?_
        rotate_left
        · intro w hSw
          try dsimp only at hSw
          go_simp
          try with_reducible rfl
        try simp only [Act.put, List.setIfInBounds_toArray, List.set_cons_zero, List.set_cons_succ]
        clear hH
        refine U_one (i := 6) (by kernel_rfl) rfl (fun K hK => ?_)
        go_simp
        generalize hWn : (w42.alloc (.cells #[.bool sht, .slice aht nht cht, .slice Aht Nht Cht, .bool shm, .slice ahm nhm chm, .slice Ahm Nhm Chm] 123)) = w43
        have hb : Below w42.heap.size w42 w43 := by rw [← hWn]; exact (Below.refl _ _).alloc (Nat.le_refl _) _
        have Ble : Bx w43 (w42.heap.size) 123 #[.bool sht, .slice aht nht cht, .slice Aht Nht Cht, .bool shm, .slice ahm nhm chm, .slice Ahm Nhm Chm] := by rw [← hWn]; exact Bx.new _ _ _
        have no_e : wr.heap.size ≠ w42.heap.size := by have := Blo.lt; omega
        have ns_e : w2.heap.size ≠ w42.heap.size := by have := Bls.lt; omega
        have nq_e : w3.heap.size ≠ w42.heap.size := by have := Blq.lt; omega
        have nt_e : W.heap.size ≠ w42.heap.size := by have := Blt.lt; omega
        have nr_e : W.heap.size + 1 ≠ w42.heap.size := by have := Blr.lt; omega
        have sz_e : w.heap.size ≤ w42.heap.size := hs.size
        replace hs := bStep hs hb
        replace Blo := Blo.mono hb
        replace Bls := Bls.mono hb
        replace Blq := Blq.mono hb
        replace Blt := Blt.mono hb
        replace Blr := Blr.mono hb
        replace ht := ht.mono hb
        replace hr := hr.mono hb
        replace hz := hz.mono hb
        replace hm := hm.mono hb
        replace Oout := Oout.mono (C2.kept PC.kept) hb
        replace hT := tkB _ _ _ hT hb
        replace co_0 := cellK co_0 hb
        replace ct_0 := cellK ct_0 hb
        replace ct_1 := cellK ct_1 hb
        replace ct_2 := cellK ct_2 hb
        replace cs_0 := cellK cs_0 hb
        replace cs_1 := cellK cs_1 hb
        replace cs_2 := cellK cs_2 hb
        replace cr_0 := cellK cr_0 hb
        replace cr_1 := cellK cr_1 hb
        replace cr_2 := cellK cr_2 hb
        clear hb hWn
        refine hK.out _ _ ⟨co_0, ct_0, ct_1, ct_2, cs_0, cs_1, cs_2, cr_0, cr_1, cr_2⟩ (fun hH => ?_)
        clear hK K
        try simp only [Act.put, List.setIfInBounds_toArray, List.set_cons_zero, List.set_cons_succ]
        clear hH
        refine U_one (i := 7) (by kernel_rfl) rfl (fun K hK => ?_)
        obtain ⟨css, ho1, ho2, ho3, hown0⟩ := Oout
        simp only [List.getElem_toArray, List.getElem_cons_succ, List.getElem_cons_zero]
        rw [if_pos (by rfl)]
        refine wp_append_lies _ _ _ _ (by rfl) w.heap.size 123 i0 _ 6 112 Tryz.underlying116 hi hz0 hz1 hz2 (by rfl) (by omega) _ _ css.flatten (by rfl) hown0 ⟨w42.heap.size, 0, none⟩ 1 1 [.bool sht, .slice aht nht cht, .slice Aht Nht Cht, .bool shm, .slice ahm nhm chm, .slice Ahm Nhm Chm] (by rfl) (by rfl) Ble.news ?_ (by omega) ?_ ?_ ?_ _ rfl ?_
        · intro u hu; simp only [List.mem_cons, List.mem_nil_iff, or_false] at hu; rcases hu with rfl | rfl | rfl | rfl | rfl | rfl <;> rfl
        · unfold maxLen; (have := echoQ_length l k; omega)
        · (have := echoQ_length l k; omega)
        · exact hs.size
        intro gout capout w44 hown1 hgrow hat hlt
        have hk := KeepD.owns hown0 hgrow (by decide)
        have ho := owns_onlyT hown0 hgrow
        replace hs := hs.grown hgrow hs.size (fun k hk => (hown0.lt k hk).1)
        replace Oout := OwnR.push (C2.kept PC.kept) ho1 ho2 ho3 (x := (tmQ l (k + 1), lfQ l k * rfQ l k)) rfl ⟨[_, _, _], [_, _, _], rfl, ⟨_, _, _, rfl, ht⟩, ⟨_, _, _, rfl, hm⟩⟩ hown1 hk
        replace Blo := Blo.only ho (by decide)
        replace Bls := Bls.only ho (by decide)
        replace Blq := Blq.only ho (by decide)
        replace Blt := Blt.only ho (by decide)
        replace Blr := Blr.only ho (by decide)
        replace ht := ht.keep hk
        replace hr := hr.keep hk
        replace hz := hz.keep hk
        replace hm := hm.keep hk
        replace hT := hT.only ho (by decide) (by decide)
        replace co_0 := Blo.at 0 rfl
        replace ct_0 := Blt.at 0 rfl
        replace ct_1 := Blt.at 1 rfl
        replace ct_2 := Blt.at 2 rfl
        replace cs_0 := Bls.at 0 rfl
        replace cs_1 := Bls.at 1 rfl
        replace cs_2 := Bls.at 2 rfl
        replace cr_0 := Blr.at 0 rfl
        replace cr_1 := Blr.at 1 rfl
        replace cr_2 := Blr.at 2 rfl
        clear hk ho ho1 ho2 ho3 hown0 hown1 hgrow Ble
        refine hK.out _ _ ⟨co_0, ct_0, ct_1, ct_2, cs_0, cs_1, cs_2, cr_0, cr_1, cr_2⟩ (fun hH => ?_)
        clear hK K
        try simp only [Act.put, List.setIfInBounds_toArray, List.set_cons_zero, List.set_cons_succ]
        clear hH
        have co_0 : w44.cell? ⟨wr.heap.size, 0, none⟩ = some (ov) := Blo.at 0 rfl
        have fo := Blo.free
        have Lo : wr.heap.size < w44.heap.size := Blo.lt
        refine U_last (by kernel_rfl) rfl (by kernel_rfl) (fun K hK => ?_)
        go_simp
        refine hK.out _ _ ?_
        clear hK K
        intro w45 hW
        have hsz := hs.size
        have lo := Blo.lt
        have ls := Bls.lt
        have lq := Blq.lt
        have lt := Blt.lt
        have lr := Blr.lt
        have hbw : Below w.heap.size w44 w45 := by rw [hW]; exact (Below.setCell (Below.refl w.heap.size w44) (by first | exact Nat.le_refl _ | omega | (have := hs.size; simp; done) | (have := hs.size; simp; omega)) _)
        have hs1 : Below w.heap.size w w45 := hs.trans hbw
        have hk : KeepD w44 w45 := by rw [hW]; exact (KeepD.set (KeepD.refl _) Blo.ty (by decide) _ _)
        have ho : OnlyT 116 w44 w45 := by rw [hW]; exact (OnlyT.set (OnlyT.refl _ _) Blo.ty _ _)
        have Bl1o : Bx w45 (wr.heap.size) 116 #[.slice (some ⟨gout, 0, none⟩) ((echoQ l k).length + 1) capout] := by rw [hW]; exact (Bx.set Blo 0 _ rfl)
        have Bl1s : Bx w45 (w2.heap.size) 32 #[.bool shz, .slice ahz nhz chz, .slice Ahz Nhz Chz] := by rw [hW]; exact (Bx.far Bls (by first | omega | (simp; done) | (simp; omega)) _)
        have Bl1q : Bx w45 (w3.heap.size) 121 #[.slice ao l.length cap] := by rw [hW]; exact (Bx.far Blq (by first | omega | (simp; done) | (simp; omega)) _)
        have Bl1t : Bx w45 (W.heap.size) 32 #[.bool sht, .slice aht nht cht, .slice Aht Nht Cht] := by rw [hW]; exact (Bx.far Blt (by first | omega | (simp; done) | (simp; omega)) _)
        have Bl1r : Bx w45 (W.heap.size + 1) 32 #[.bool shr, .slice ahr nhr chr, .slice Ahr Nhr Chr] := by rw [hW]; exact (Bx.far Blr (by first | omega | (simp; done) | (simp; omega)) _)
        replace hs := hs1
        clear hs1
        have hT1 : Tk W1.heap.size lp D (rec .busy none) W3 w45 := by rw [hW]; exact (tkS _ _ _ hT (by first | exact Nat.le_refl _ | omega) Blo.ty _ _)
        replace hT := hT1
        clear hT1
        replace Blo := Bl1o
        clear Bl1o
        replace Bls := Bl1s
        clear Bl1s
        replace Blq := Bl1q
        clear Bl1q
        replace Blt := Bl1t
        clear Bl1t
        replace Blr := Bl1r
        clear Bl1r
        replace ht := ht.keep hk
        replace hr := hr.keep hk
        replace hz := hz.keep hk
        replace hm := hm.keep hk
        replace Oout := Oout.onlyT (C2.kept PC.kept) ho (by decide) (by decide)
        clear ho
        clear hW hk hsz hbw lo ls lq lt lr
        try simp only [Act.put, List.setIfInBounds_toArray, List.set_cons_zero, List.set_cons_succ]
        clear co_0 ct_0 ct_1 ct_2 cs_0 cs_1 cs_2 cr_0 cr_1 cr_2
        show Code.wpIn _ _ _ _ _ _ _
        refine R_region (S := fun w' => w'.cell? ⟨w2.heap.size, 0, none⟩ = some (.bool shz) ∧ w'.cell? ⟨w2.heap.size, 1, none⟩ = some (.slice ahz nhz chz) ∧ w'.cell? ⟨w2.heap.size, 2, none⟩ = some (.slice Ahz Nhz Chz) ∧ w'.cell? ⟨W.heap.size + 1, 0, none⟩ = some (.bool shr) ∧ w'.cell? ⟨W.heap.size + 1, 1, none⟩ = some (.slice ahr nhr chr) ∧ w'.cell? ⟨W.heap.size + 1, 2, none⟩ = some (.slice Ahr Nhr Chr)) (by kernel_rfl) (fun _ _ h => by have h' := And.left h; cases h') (by kernel_rfl) 7 ?_
        refine AnyU.abs ?_
        intro w46 hW
        have hb : Below w45.heap.size w45 w46 := by rw [hW]; exact bDrew _
        replace hs := bStep hs hb
        replace Blo := Blo.mono hb
        replace Bls := Bls.mono hb
        replace Blq := Blq.mono hb
        replace Blt := Blt.mono hb
        replace Blr := Blr.mono hb
        replace ht := ht.mono hb
        replace hr := hr.mono hb
        replace hz := hz.mono hb
        replace hm := hm.mono hb
        replace Oout := Oout.mono (C2.kept PC.kept) hb
        replace hT := tkB _ _ _ hT hb
        clear hb hW
        have cs_0 : w46.cell? ⟨w2.heap.size, 0, none⟩ = some (.bool shz) := Bls.at 0 rfl
        have cs_1 : w46.cell? ⟨w2.heap.size, 1, none⟩ = some (.slice ahz nhz chz) := Bls.at 1 rfl
        have cs_2 : w46.cell? ⟨w2.heap.size, 2, none⟩ = some (.slice Ahz Nhz Chz) := Bls.at 2 rfl
        have cr_0 : w46.cell? ⟨W.heap.size + 1, 0, none⟩ = some (.bool shr) := Blr.at 0 rfl
        have cr_1 : w46.cell? ⟨W.heap.size + 1, 1, none⟩ = some (.slice ahr nhr chr) := Blr.at 1 rfl
        have cr_2 : w46.cell? ⟨W.heap.size + 1, 2, none⟩ = some (.slice Ahr Nhr Chr) := Blr.at 2 rfl
        have hH := (show w46.cell? ⟨w2.heap.size, 0, none⟩ = some (.bool shz) ∧ w46.cell? ⟨w2.heap.size, 1, none⟩ = some (.slice ahz nhz chz) ∧ w46.cell? ⟨w2.heap.size, 2, none⟩ = some (.slice Ahz Nhz Chz) ∧ w46.cell? ⟨W.heap.size + 1, 0, none⟩ = some (.bool shr) ∧ w46.cell? ⟨W.heap.size + 1, 1, none⟩ = some (.slice ahr nhr chr) ∧ w46.cell? ⟨W.heap.size + 1, 2, none⟩ = some (.slice Ahr Nhr Chr) from ⟨cs_0, cs_1, cs_2, cr_0, cr_1, cr_2⟩)
        refine U_take (i := 0) (v := ?_) rfl (by kernel_rfl) (by kernel_rfl) (by kernel_rfl) (by kernel_rfl) (fun _ _ _ h => h) (Or.inl ⟨by rfl, ?_⟩) hH ?_
        rotate_left
        · intro w hSw
          try dsimp only at hSw
          go_simp
          try with_reducible rfl
        try simp only [Act.put, List.setIfInBounds_toArray, List.set_cons_zero, List.set_cons_succ]
        refine U_take (i := 2) (v := ?_) rfl (by kernel_rfl) (by kernel_rfl) (by kernel_rfl) (by kernel_rfl) (fun _ _ _ h => h) (Or.inl ⟨by rfl, ?_⟩) hH ?_
        rotate_left
        · intro w hSw
          try dsimp only at hSw
          go_simp
          try with_reducible rfl
        try simp only [Act.put, List.setIfInBounds_toArray, List.set_cons_zero, List.set_cons_succ]
        refine U_take (i := 3) (v := ?_) rfl (by kernel_rfl) (by kernel_rfl) (by kernel_rfl) (by kernel_rfl) (fun _ _ _ h => h) (Or.inl ⟨by rfl, ?_⟩) hH ?_
        rotate_left
        · intro w hSw
          try dsimp only at hSw
          go_simp
          try with_reducible rfl
        try simp only [Act.put, List.setIfInBounds_toArray, List.set_cons_zero, List.set_cons_succ]
        clear hH
        refine U_one (i := 1) (by kernel_rfl) rfl (fun K hK => ?_)
        go_simp
        (with_reducible refine (sc_whole 1 _ (by decide) (by decide)).mono ?_)
        rintro e w47 ⟨_, rfl, hun, hb⟩
        obtain ⟨shun, ahun, nhun, chun, Ahun, Nhun, Chun, rfl⟩ := hun.shape
        replace hs := bStep hs hb
        replace Blo := Blo.mono hb
        replace Bls := Bls.mono hb
        replace Blq := Blq.mono hb
        replace Blt := Blt.mono hb
        replace Blr := Blr.mono hb
        replace ht := ht.mono hb
        replace hr := hr.mono hb
        replace hz := hz.mono hb
        replace hm := hm.mono hb
        replace Oout := Oout.mono (C2.kept PC.kept) hb
        replace hT := tkB _ _ _ hT hb
        replace cs_0 := cellK cs_0 hb
        replace cs_1 := cellK cs_1 hb
        replace cs_2 := cellK cs_2 hb
        replace cr_0 := cellK cr_0 hb
        replace cr_1 := cellK cr_1 hb
        replace cr_2 := cellK cr_2 hb
        clear hb
        replace hun := hun.of_eq (show ((1 : Int) : Rat) = 1 from rfl)
        try go_wp2_with fail
        refine hK.out _ _ ⟨cs_0, cs_1, cs_2, cr_0, cr_1, cr_2⟩ (fun hH => ?_)
        clear hK K
        try simp only [Act.put, List.setIfInBounds_toArray, List.set_cons_zero, List.set_cons_succ]
        clear hH
        refine U_one (i := 4) (by kernel_rfl) rfl (fun K hK => ?_)
        go_simp
        (with_reducible refine (pMul hr hr e1 e1).mono ?_)
        rintro e w48 ⟨_, rfl, hrr, hb⟩
        obtain ⟨shrr, ahrr, nhrr, chrr, Ahrr, Nhrr, Chrr, rfl⟩ := hrr.shape
        replace hs := bStep hs hb
        replace Blo := Blo.mono hb
        replace Bls := Bls.mono hb
        replace Blq := Blq.mono hb
        replace Blt := Blt.mono hb
        replace Blr := Blr.mono hb
        replace ht := ht.mono hb
        replace hr := hr.mono hb
        replace hz := hz.mono hb
        replace hm := hm.mono hb
        replace hun := hun.mono hb
        replace Oout := Oout.mono (C2.kept PC.kept) hb
        replace hT := tkB _ _ _ hT hb
        replace cs_0 := cellK cs_0 hb
        replace cs_1 := cellK cs_1 hb
        replace cs_2 := cellK cs_2 hb
        replace cr_0 := cellK cr_0 hb
        replace cr_1 := cellK cr_1 hb
        replace cr_2 := cellK cr_2 hb
        clear hb
        try go_wp2_with fail
        refine hK.out _ _ ⟨cs_0, cs_1, cs_2, cr_0, cr_1, cr_2⟩ (fun hH => ?_)
        clear hK K
        try simp only [Act.put, List.setIfInBounds_toArray, List.set_cons_zero, List.set_cons_succ]
        clear hH
        refine U_one (i := 5) (by kernel_rfl) rfl (fun K hK => ?_)
        go_simp
        (with_reducible refine (pSub hun hrr szQ_one.fit e3).mono ?_)
        rintro e w49 ⟨_, rfl, hd, hb⟩
        obtain ⟨shd, ahd, nhd, chd, Ahd, Nhd, Chd, rfl⟩ := hd.shape
        replace hs := bStep hs hb
        replace Blo := Blo.mono hb
        replace Bls := Bls.mono hb
        replace Blq := Blq.mono hb
        replace Blt := Blt.mono hb
        replace Blr := Blr.mono hb
        replace ht := ht.mono hb
        replace hr := hr.mono hb
        replace hz := hz.mono hb
        replace hm := hm.mono hb
        replace hun := hun.mono hb
        replace hrr := hrr.mono hb
        replace Oout := Oout.mono (C2.kept PC.kept) hb
        replace hT := tkB _ _ _ hT hb
        replace cs_0 := cellK cs_0 hb
        replace cs_1 := cellK cs_1 hb
        replace cs_2 := cellK cs_2 hb
        replace cr_0 := cellK cr_0 hb
        replace cr_1 := cellK cr_1 hb
        replace cr_2 := cellK cr_2 hb
        clear hb
        try go_wp2_with fail
        refine hK.out _ _ ⟨cs_0, cs_1, cs_2, cr_0, cr_1, cr_2⟩ (fun hH => ?_)
        clear hK K
        try simp only [Act.put, List.setIfInBounds_toArray, List.set_cons_zero, List.set_cons_succ]
        clear hH
        refine U_one (i := 6) (by kernel_rfl) rfl (fun K hK => ?_)
        go_simp
        (with_reducible refine (pMul hz hd e2 e4).mono ?_)
        rintro e w50 ⟨_, rfl, hl2, hb⟩
        obtain ⟨shl2, ahl2, nhl2, chl2, Ahl2, Nhl2, Chl2, rfl⟩ := hl2.shape
        replace hs := bStep hs hb
        replace Blo := Blo.mono hb
        replace Bls := Bls.mono hb
        replace Blq := Blq.mono hb
        replace Blt := Blt.mono hb
        replace Blr := Blr.mono hb
        replace ht := ht.mono hb
        replace hr := hr.mono hb
        replace hz := hz.mono hb
        replace hm := hm.mono hb
        replace hun := hun.mono hb
        replace hrr := hrr.mono hb
        replace hd := hd.mono hb
        replace Oout := Oout.mono (C2.kept PC.kept) hb
        replace hT := tkB _ _ _ hT hb
        replace cs_0 := cellK cs_0 hb
        replace cs_1 := cellK cs_1 hb
        replace cs_2 := cellK cs_2 hb
        replace cr_0 := cellK cr_0 hb
        replace cr_1 := cellK cr_1 hb
        replace cr_2 := cellK cr_2 hb
        clear hb
        try go_wp2_with fail
        refine hK.out _ _ ⟨cs_0, cs_1, cs_2, cr_0, cr_1, cr_2⟩ (fun hH => ?_)
        clear hK K
        try simp only [Act.put, List.setIfInBounds_toArray, List.set_cons_zero, List.set_cons_succ]
        clear hH
        have cs_0 : w50.cell? ⟨w2.heap.size, 0, none⟩ = some (.bool shz) := Bls.at 0 rfl
        have cs_1 : w50.cell? ⟨w2.heap.size, 1, none⟩ = some (.slice ahz nhz chz) := Bls.at 1 rfl
        have cs_2 : w50.cell? ⟨w2.heap.size, 2, none⟩ = some (.slice Ahz Nhz Chz) := Bls.at 2 rfl
        have fs := Bls.free
        have Ls : w2.heap.size < w50.heap.size := Bls.lt
        refine U_last (by kernel_rfl) rfl (by kernel_rfl) (fun K hK => ?_)
        go_simp
        refine hK.out _ _ ?_
        clear hK K
        intro w51 hW
        have hsz := hs.size
        have lo := Blo.lt
        have ls := Bls.lt
        have lq := Blq.lt
        have lt := Blt.lt
        have lr := Blr.lt
        have hbw : Below w.heap.size w50 w51 := by rw [hW]; exact (Below.setCell (Below.setCell (Below.setCell (Below.refl w.heap.size w50) (by first | exact Nat.le_refl _ | omega | (have := hs.size; simp; done) | (have := hs.size; simp; omega)) _) (by first | exact Nat.le_refl _ | omega | (have := hs.size; simp; done) | (have := hs.size; simp; omega)) _) (by first | exact Nat.le_refl _ | omega | (have := hs.size; simp; done) | (have := hs.size; simp; omega)) _)
        have hs1 : Below w.heap.size w w51 := hs.trans hbw
        have hk : KeepD w50 w51 := by rw [hW]; exact (KeepD.set (KeepD.set (KeepD.set (KeepD.refl _) Bls.ty (by decide) _ _) (TyB.store Bls.ty _ _) (by decide) _ _) (TyB.store (TyB.store Bls.ty _ _) _ _) (by decide) _ _)
        have ho : OnlyT 32 w50 w51 := by rw [hW]; exact (OnlyT.set (OnlyT.set (OnlyT.set (OnlyT.refl _ _) Bls.ty _ _) (TyB.store Bls.ty _ _) _ _) (TyB.store (TyB.store Bls.ty _ _) _ _) _ _)
        have Bl1o : Bx w51 (wr.heap.size) 116 #[.slice (some ⟨gout, 0, none⟩) ((echoQ l k).length + 1) capout] := by rw [hW]; exact (Bx.far (Bx.far (Bx.far Blo (by first | omega | (simp; done) | (simp; omega)) _) (by first | omega | (simp; done) | (simp; omega)) _) (by first | omega | (simp; done) | (simp; omega)) _)
        have Bl1s : Bx w51 (w2.heap.size) 32 #[.bool shl2, .slice ahl2 nhl2 chl2, .slice Ahl2 Nhl2 Chl2] := by rw [hW]; exact (Bx.set (Bx.set (Bx.set Bls 0 _ rfl) 1 _ rfl) 2 _ rfl)
        have Bl1q : Bx w51 (w3.heap.size) 121 #[.slice ao l.length cap] := by rw [hW]; exact (Bx.far (Bx.far (Bx.far Blq (by first | omega | (simp; done) | (simp; omega)) _) (by first | omega | (simp; done) | (simp; omega)) _) (by first | omega | (simp; done) | (simp; omega)) _)
        have Bl1t : Bx w51 (W.heap.size) 32 #[.bool sht, .slice aht nht cht, .slice Aht Nht Cht] := by rw [hW]; exact (Bx.far (Bx.far (Bx.far Blt (by first | omega | (simp; done) | (simp; omega)) _) (by first | omega | (simp; done) | (simp; omega)) _) (by first | omega | (simp; done) | (simp; omega)) _)
        have Bl1r : Bx w51 (W.heap.size + 1) 32 #[.bool shr, .slice ahr nhr chr, .slice Ahr Nhr Chr] := by rw [hW]; exact (Bx.far (Bx.far (Bx.far Blr (by first | omega | (simp; done) | (simp; omega)) _) (by first | omega | (simp; done) | (simp; omega)) _) (by first | omega | (simp; done) | (simp; omega)) _)
        replace hs := hs1
        clear hs1
        have hT1 : Tk W1.heap.size lp D (rec .busy none) W3 w51 := by rw [hW]; exact (tkS _ _ _ (tkS _ _ _ (tkS _ _ _ hT (by first | exact Nat.le_refl _ | omega) Bls.ty _ _) (by first | exact Nat.le_refl _ | omega) (TyB.store Bls.ty _ _) _ _) (by first | exact Nat.le_refl _ | omega) (TyB.store (TyB.store Bls.ty _ _) _ _) _ _)
        replace hT := hT1
        clear hT1
        replace Blo := Bl1o
        clear Bl1o
        replace Bls := Bl1s
        clear Bl1s
        replace Blq := Bl1q
        clear Bl1q
        replace Blt := Bl1t
        clear Bl1t
        replace Blr := Bl1r
        clear Bl1r
        replace ht := ht.keep hk
        replace hr := hr.keep hk
        replace hz := hz.keep hk
        replace hm := hm.keep hk
        replace hun := hun.keep hk
        replace hrr := hrr.keep hk
        replace hd := hd.keep hk
        replace hl2 := hl2.keep hk
        replace Oout := Oout.onlyT (C2.kept PC.kept) ho (by decide) (by decide)
        clear ho
        clear hW hk hsz hbw lo ls lq lt lr
        try simp only [Act.put, List.setIfInBounds_toArray, List.set_cons_zero, List.set_cons_succ]
        clear cs_0 cs_1 cs_2 cr_0 cr_1 cr_2
        refine And.intro (by first | trivial | rfl) (And.intro hT.lp (And.intro (by first | trivial | rfl) (And.intro ?_ (HRD.out _ hT))))
        exact EJ.put (L := rec .busy none) ⟨hT.lp, hT.dd, hs, Blq, ⟨_, _, _, _, _, _, _, Bls, hl2⟩, _, Blo, by rw [echoQ_succ]; exact Oout⟩ (by omega) (by omega)
      case done =>
        clear Blo Bls Blq hz hs hW1 hb e1 e2 HJ0 hyl
        rintro e W5 ⟨⟨x, rfl⟩, hJ⟩
        refine ⟨⟨_, rfl⟩, hJ.1, ?_⟩
        have hJ5 := EJ.put (L' := rec .exhausted none) hJ (by omega) (by omega)
        obtain ⟨W6, hW6⟩ : ∃ W6, W5.putObj lp (.loop (rec .exhausted none)) = W6 := ⟨_, rfl⟩
        rw [hW6] at hJ5 ⊢
        clear hJ hW6
        obtain ⟨-, hK, hs, -, -, ov, Blo, Oout⟩ := hJ5
        obtain ⟨ao2, cap2, rfl, _⟩ := Oout.slice
        have co_0 := Blo.at 0 rfl
        have HK := Lib.hid (And.intro hK (And.intro hs Oout))
        clear hK hs Oout Blo
        go_wp2
        refine ⟨by simp, .inl ⟨_, _, rfl, run_takeDeferred HK.out.1, ?_⟩⟩
        refine ⟨_, results_tmp2 rfl _ _ _, _, _, rfl, (HK.out.2.2.putD (C2.kept PC.kept) HK.out.1 rfl).rows, rfl, HK.out.2.1.trans (belowK_b (Nat.le_refl _) W6 D _ _ (by omega) HK.out.1 rfl rfl)⟩
end Go.Proofs.YtkfekkhhfpkfaaaGreat
