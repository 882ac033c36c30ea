/-
  The contract of scan's Echoes: the echoes.
-/
import Derived.Test.YtkfekkhhfpkfaaaGreatPkEchoG
set_option linter.unusedSimpArgs false
set_option linter.unusedVariables false
set_option maxRecDepth 100000
set_option maxHeartbeats 16000000
namespace Go.Proofs.YtkfekkhhfpkfaaaGreat
open Go.RowKit Dg
attribute [local go_sem ↓] Go.wp_at_zero Go.wp_at_succ
attribute [local go_sem] Oper.semAt_some
theorem echoP_info : (Tryz.prog.info? 123).map (fun i => (i.zero, i.size, i.bytes)) = some (some (.agg #[.bool false, .slice none 0 0, .slice none 0 0, .bool false, .slice none 0 0, .slice none 0 0]), 6, 112) := by kernel_rfl
theorem sc_Echoes_ok (v : Value) (l : List Lay) (B : Nat) (w : World) (hl : Rows 9 120 (C3 PC) w v l) (h1 : 2 ≤ l.length) (h2 : l.length ≤ 12) (hp : l.all layPos = true) (hB : B ≤ 1000) (hz : ∀ x ∈ l, LaySz B x) :
  Calls Tryz.prog 49 #[v] w (Ret2 (fun w v => Rows 6 123 (C2 PC) w v (echoQ l (l.length - 1))) (fun _ v => v = .int .i64 0) w) := by
 obtain ⟨ao, Cu, rfl, hc1, hc2, hc3⟩ := hl.slice
 have hs := Below.refl w.heap.size w
 have HL := Lib.hid hl
 have HPT := Lib.hid hp
 have HZ := Lib.hid hz
 have HFT := Lib.hid (fun k (hk : k + 1 < l.length) => echo_fits hz (List.all_eq_true.1 hp) hB h2 hk)
 clear hl hp hz
 refine (callsIn_wide (n := 2)).1 (callsIn_of_wp_marks Tryz.func49 rfl trivial ?_)
 simp only [Tryz.ntmps49, List.size_toArray, List.length_cons, List.length_nil, Nat.reduceAdd, Nat.reduceSub, Array.replicate_succ,
   Array.replicate_zero, List.push_toArray, List.append_toArray, List.nil_append, List.cons_append]
 refine wpIn_wide.2 ?_
 go_wp2
 go_loopw [20] (fun iv wr => ∃ k : Nat, k ≤ l.length ∧ iv = .int .i64 k ∧ (l.take k).all layPos = true ∧ Below w.heap.size w wr) (fun iv _ => l.length - (intOf iv).toNat)
 case atStart => exact ⟨0, Nat.zero_le _, rfl, rfl, hs⟩
 case round =>
  obtain ⟨k, hk, rfl, hp, hs⟩ := hrel
  have HP := Lib.hid hp
  clear hp
  by_cases hlt : k < l.length
  ·obtain ⟨x, hx⟩ : ∃ x, l[k]? = some x := ⟨_, List.getElem?_eq_getElem hlt⟩
   obtain ⟨bx, ox, dx, csx, hvx, Dd, Bn, hcx⟩ := (HL.out.mono (C3.kept PC.kept) hs).get hx
   obtain ⟨rfl, rfl⟩ := sliceE hvx
   obtain ⟨gx1, ax1, nx1, cx1, Ax1, Nx1, Dx1, gx2, ax2, nx2, cx2, Ax2, Nx2, Dx2, gx3, ax3, nx3, cx3, Ax3, Nx3, Dx3, rfl, Cy, Cz, D0⟩ := hcx.openP
   have Ct := Bn 0 _ rfl
   have D1 := Bn 1 _ rfl
   have D2 := Bn 2 _ rfl
   have D3 := Bn 3 _ rfl
   have D4 := Bn 4 _ rfl
   have D5 := Bn 5 _ rfl
   have D6 := Bn 6 _ rfl
   have D7 := Bn 7 _ rfl
   have D8 := Bn 8 _ rfl
   simp only [Nat.add_zero] at Ct
   clear Bn hcx Dd
   have hLx : bx < w.heap.size := by have := HL.out.lt (by omega); omega
   have HT := Lib.hid (layPos_take l k x hx HP.out)
   clear hx
   go_wp2_with fail
   refine Calls.abs ?_
   intro w1 hW
   have Cj := hs.size
   have Bc : Below w.heap.size wr w1 := by rw [hW]; exact (Below.alloc (Below.alloc (Below.refl w.heap.size wr) (by first | exact hs.size | (have := hs.size; simp; done) | (have := hs.size; simp; omega)) _) (by first | exact hs.size | (have := hs.size; simp; done) | (have := hs.size; simp; omega)) _)
   have Bj : Below w.heap.size w w1 := hs.trans Bc
   have hk : KeepD wr w1 := by rw [hW]; exact (((KeepD.refl _).alloc _).alloc _)
   have Db : Bx w1 (wr.heap.size) 120 #[.bool gx1, .slice ax1 nx1 cx1, .slice Ax1 Nx1 Dx1, .bool gx2, .slice ax2 nx2 cx2, .slice Ax2 Nx2 Dx2, .bool gx3, .slice ax3 nx3 cx3, .slice Ax3 Nx3 Dx3] := by rw [hW]; exact ((Bx.new' _ _ _ _ (by first | rfl | (simp; done))).alloc _)
   have Bg : Bx w1 (wr.heap.size + 1) 32 #[.bool gx1, .slice ax1 nx1 cx1, .slice Ax1 Nx1 Dx1, .bool gx2, .slice ax2 nx2 cx2, .slice Ax2 Nx2 Dx2, .bool gx3, .slice ax3 nx3 cx3, .slice Ax3 Nx3 Dx3] := by rw [hW]; exact (Bx.new' _ _ _ _ (by first | rfl | (simp; done)))
   replace hs := Bj
   clear Bj
   have Bly := Db
   clear Db
   have B0 := Bg
   clear Bg
   replace Cy := Cy.keep hk
   replace Cz := Cz.keep hk
   replace D0 := D0.keep hk
   replace Ct := cellB Ct Bc (by first | assumption | (show _ < _; omega))
   replace D1 := cellB D1 Bc (by first | assumption | (show _ < _; omega))
   replace D2 := cellB D2 Bc (by first | assumption | (show _ < _; omega))
   replace D3 := cellB D3 Bc (by first | assumption | (show _ < _; omega))
   replace D4 := cellB D4 Bc (by first | assumption | (show _ < _; omega))
   replace D5 := cellB D5 Bc (by first | assumption | (show _ < _; omega))
   replace D6 := cellB D6 Bc (by first | assumption | (show _ < _; omega))
   replace D7 := cellB D7 Bc (by first | assumption | (show _ < _; omega))
   replace D8 := cellB D8 Bc (by first | assumption | (show _ < _; omega))
   clear hW hk Cj Bc
   have De := B0.lt
   refine (sc_above _ [x.1, x.2.1, x.2.2] _ (rows3 B0 Cy Cz D0)).mono ?_
   rintro e w2 ⟨rfl, hb⟩
   replace hs := bStep hs hb
   replace Bly := Bly.mono hb
   replace B0 := B0.mono hb
   replace Cy := Cy.mono hb
   replace Cz := Cz.mono hb
   replace D0 := D0.mono hb
   replace Ct := cellK Ct hb
   replace D1 := cellK D1 hb
   replace D2 := cellK D2 hb
   replace D3 := cellK D3 hb
   replace D4 := cellK D4 hb
   replace D5 := cellK D5 hb
   replace D6 := cellK D6 hb
   replace D7 := cellK D7 hb
   replace D8 := cellK D8 hb
   clear hb
   rw [allPos_lay]
   have HX := HT.out
   clear HT
   generalize layPos x = px at *
   cases px
   ·have := layPos_false l (k + 1) HX
    rw [HPT.out] at this
    cases this
   ·have HF := Lib.hid HX
    clear HX
    go_wp2
    go_roundw
    case rel => exact ⟨k + 1, by omega, by go_num, HF.out, hs⟩
    all_goals first | (simp [intOf]; done) | (simp [intOf]; omega)
  ·obtain rfl : k = l.length := by omega
   clear HP
   have hgr := hs.size
   obtain ⟨i0, hi, hz0, hz1, hz2⟩ := info_parts echoP_info
   go_wp2_with fail
   refine Calls.abs ?_
   intro w1 hW
   have Cj := hs.size
   have Bc : Below w.heap.size wr w1 := by rw [hW]; exact (Below.alloc (Below.refl w.heap.size wr) (by first | exact hs.size | (have := hs.size; simp; done) | (have := hs.size; simp; omega)) _)
   have Bj : Below w.heap.size w w1 := hs.trans Bc
   have hk : KeepD wr w1 := by rw [hW]; exact ((KeepD.refl _).alloc _)
   have Bf : Bx w1 (wr.heap.size) 116 #[.slice none 0 0] := by rw [hW]; exact (Bx.new' _ _ _ _ (by first | rfl | (simp; done)))
   replace hs := Bj
   clear Bj
   have B1 := Bf
   clear Bf
   clear hW hk Cj Bc
   have De := B1.lt
   refine (sc_whole 1 _ (by decide) (by decide)).mono ?_
   rintro e w2 ⟨_, rfl, hz, hb⟩
   obtain ⟨Cg, Cd, Cf, Ce, Ca, Cc, Cb, rfl⟩ := hz.shape
   replace hs := bStep hs hb
   replace B1 := B1.mono hb
   clear hb
   replace hz := hz.of_eq (show ((1 : Int) : Rat) = 1 from rfl)
   have q1 := B1.lt
   go_wp2_with fail
   refine Calls.abs ?_
   intro w3 hW
   have Cj := hs.size
   have lo := B1.lt
   have Bc : Below w.heap.size w2 w3 := by rw [hW]; exact (Below.alloc (Below.refl w.heap.size w2) (by first | exact hs.size | (have := hs.size; simp; done) | (have := hs.size; simp; omega)) _)
   have Bj : Below w.heap.size w w3 := hs.trans Bc
   have hk : KeepD w2 w3 := by rw [hW]; exact ((KeepD.refl _).alloc _)
   have Bf : Bx w3 (wr.heap.size) 116 #[.slice none 0 0] := by rw [hW]; exact (B1.alloc _)
   have Bg : Bx w3 (w2.heap.size) 32 #[.bool Cg, .slice Cd Cf Ce, .slice Ca Cc Cb] := by rw [hW]; exact (Bx.new' _ _ _ _ (by first | rfl | (simp; done)))
   replace hs := Bj
   clear Bj
   replace B1 := Bf
   clear Bf
   have B0 := Bg
   clear Bg
   replace hz := hz.keep hk
   clear hW hk Cj Bc lo
   have hz_w3 := B0.lt
   have q2 := B0.lt
   refine (sc_boundaries _ _ _ _).mono ?_
   rintro e w4 ⟨rfl, Bb, hb⟩
   replace hs := bStep hs hb
   replace B1 := B1.mono hb
   replace B0 := B0.mono hb
   replace hz := hz.mono hb
   clear hb
   go_wp2_with fail
   refine (wpIn_wide (n := 2)).1 (rangeJoint rfl (by omega) (gf := 156) (lb := #[.pointer (some ⟨w3.heap.size, 0, none⟩)]) rfl trivial (enters_of Tryz.func156 (by kernel_rfl) rfl) ?_)
   intro Bi lp D W1 hlp hD Cr hyl
   have le := B1.lt
   have ls := B0.lt
   have lq := Bb.lt
   have hn := hs.size
   have n1 : W1.heap.size = w4.heap.size + 2 := by rw [Cr]; simp
   have hb : Below w4.heap.size w4 W1 := by rw [Cr]; exact ((Below.refl _ _).alloc (Nat.le_refl _) _).alloc (by simp) _
   have e1 : W1.heap[lp]? = some (.loop (Bi .ready none)) := by rw [Cr, hlp]; have := World.alloc_heap_new (w4.alloc (.deferred (some []))) (.loop (Bi .ready none)); rwa [World.size_alloc] at this
   have e2 : W1.heap[D]? = some (.deferred (some [])) := by rw [Cr, hD]; exact (Below.heap_alloc _ _ _ (by simp)).trans (World.alloc_heap_new w4 _)
   have HJ0 : EJ w lp D (Bi .ready none) (wr.heap.size) (w2.heap.size) (w3.heap.size) (.slice ao l.length Cu) l 0 W1 := ⟨e1, e2, bStep hs hb, Bb.mono hb, ⟨_, _, _, _, _, _, _, B0.mono hb, hz.mono hb⟩, _, B1.mono hb, OwnR.nil _ _ _ _ _⟩
   refine callsIn_wide.2 ?_
   refine (bnd_in lp (w3.heap.size) (.slice ao l.length Cu) l B (fun k W => EJ w lp D (Bi .ready none) (wr.heap.size) (w2.heap.size) (w3.heap.size) (.slice ao l.length Cu) l k W) w W1 HL.out h1 h2 (List.all_eq_true.1 HPT.out) hB HZ.out (by omega) (by omega) (fun k W h => ⟨h.2.2.1, h.2.2.2.1.at 0 rfl⟩) EJ.below (fun k W b h hb ht j x => EJ.set (by omega) (by omega) (by omega) (by omega) (by omega) (by omega) k W b h hb ht j x) ?hy HJ0).mono ?done
   case hy =>
    clear B1 B0 Bb hz hs Cr hb e1 e2 HJ0
    intro k W vt vr hk hJ hnn ht hr
    obtain ⟨C7, Bw, C5, Bz, Bq, Bu, Bs, rfl⟩ := ht.shape
    obtain ⟨C6, Bv, C4, By, Bp, Bt, Br, rfl⟩ := hr.shape
    refine hyl #[_, _] W _ rfl hJ.1 ?_
    clear hyl
    gi_wp2
    obtain ⟨W2, Cx⟩ : ∃ W2, (W.alloc (.cells #[.bool C7, .slice Bw C5 Bz, .slice Bq Bu Bs] 32)).alloc (.cells #[.bool C6, .slice Bv C4 By, .slice Bp Bt Br] 32) = W2 := ⟨_, rfl⟩
    rw [Cx]
    have hb : Below W.heap.size W W2 := by rw [← Cx]; exact ((Below.refl _ _).alloc (Nat.le_refl _) _).alloc (by simp) _
    have Ba : Bx W2 W.heap.size 32 #[.bool C7, .slice Bw C5 Bz, .slice Bq Bu Bs] := by rw [← Cx]; exact (Bx.new _ _ _).alloc _
    have B3 : Bx W2 (W.heap.size + 1) 32 #[.bool C6, .slice Bv C4 By, .slice Bp Bt Br] := by rw [← Cx]; exact Bx.new' _ _ _ _ (by simp)
    have hJ2 := EJ.below k W W2 hJ hb
    have C0 := hJ2.1
    refine ⟨C0, ?_⟩
    have D9 := EJ.put (L' := Bi .busy none) hJ2 (by omega) (by omega)
    obtain ⟨W3, Cq⟩ : ∃ W3, W2.putObj lp (.loop (Bi .busy none)) = W3 := ⟨_, rfl⟩
    rw [Cq] at D9 ⊢
    replace Ba : Bx W3 W.heap.size 32 #[.bool C7, .slice Bw C5 Bz, .slice Bq Bu Bs] := by rw [← Cq]; exact Ba.putL C0
    replace B3 : Bx W3 (W.heap.size + 1) 32 #[.bool C6, .slice Bv C4 By, .slice Bp Bt Br] := by rw [← Cq]; exact B3.putL C0
    replace ht : PV W3 (.agg #[.bool C7, .slice Bw C5 Bz, .slice Bq Bu Bs]) (tmQ l (k + 1)) := by rw [← Cq]; exact (ht.mono hb).keep (.putL C0)
    replace hr : PV W3 (.agg #[.bool C6, .slice Bv C4 By, .slice Bp Bt Br]) (rfQ l k) := by rw [← Cq]; exact (hr.mono hb).keep (.putL C0)
    have hT : Tk W1.heap.size lp D (Bi .busy none) W3 W3 := ⟨Nat.le_refl _, fun _ _ _ _ _ => rfl, D9.1, D9.2.1, KeepD.refl _⟩
    have HRD : ∀ W', Tk W1.heap.size lp D (Bi .busy none) W3 W' → _ := fun W' h => Tk.round (L1 := Bi .ready none) (lp := lp) (n1 := W1.heap.size) (D := D) (L := Bi .busy none) (W3 := W') hb C0 (by rw [Cq]; exact h)
    replace HRD := Lib.hid HRD
    obtain ⟨-, -, hs, Bb, ⟨Cg, Cd, Cf, Ce, Ca, Cc, Cb, B0, hz⟩, ov, B1, B2⟩ := D9
    clear hJ hJ2 hb C0 Cx Cq
    have HFK := Lib.hid (HFT.out k hk)
    obtain ⟨_, _, e1, e2, e3, e4⟩ := HFK.out
    refine wpIn_block ?_
    refine wpIn_seq ?_
    refine R_region (S := fun w' => w'.cell? ⟨wr.heap.size, 0, none⟩ = some (ov) ∧ w'.cell? ⟨W.heap.size, 0, none⟩ = some (.bool C7) ∧ w'.cell? ⟨W.heap.size, 1, none⟩ = some (.slice Bw C5 Bz) ∧ w'.cell? ⟨W.heap.size, 2, none⟩ = some (.slice Bq Bu Bs) ∧ w'.cell? ⟨w2.heap.size, 0, none⟩ = some (.bool Cg) ∧ w'.cell? ⟨w2.heap.size, 1, none⟩ = some (.slice Cd Cf Ce) ∧ w'.cell? ⟨w2.heap.size, 2, none⟩ = some (.slice Ca Cc Cb) ∧ w'.cell? ⟨W.heap.size + 1, 0, none⟩ = some (.bool C6) ∧ w'.cell? ⟨W.heap.size + 1, 1, none⟩ = some (.slice Bv C4 By) ∧ w'.cell? ⟨W.heap.size + 1, 2, none⟩ = some (.slice Bp Bt Br)) (by kernel_rfl) (fun _ _ h => by have h' := And.left h; cases h') (by kernel_rfl) 8 ?_
    refine AnyU.abs ?_
    intro Bd hW
    have hb : Below W3.heap.size W3 Bd := by rw [hW]; exact bDrew _
    replace hs := bStep hs hb
    replace B1 := B1.mono hb
    replace B0 := B0.mono hb
    replace Bb := Bb.mono hb
    replace Ba := Ba.mono hb
    replace B3 := B3.mono hb
    replace ht := ht.mono hb
    replace hr := hr.mono hb
    replace hz := hz.mono hb
    replace B2 := B2.mono (C2.kept PC.kept) hb
    replace hT := tkB _ _ _ hT hb
    clear hb hW
    have Be := B1.a0
    have Bk := Ba.a0
    have Bl := Ba.a1
    have Bm := Ba.a2
    have B4 := B0.a0
    have B5 := B0.a1
    have B6 := B0.a2
    have B7 := B3.a0
    have B8 := B3.a1
    have B9 := B3.a2
    have hH := (show Bd.cell? ⟨wr.heap.size, 0, none⟩ = some (ov) ∧ Bd.cell? ⟨W.heap.size, 0, none⟩ = some (.bool C7) ∧ Bd.cell? ⟨W.heap.size, 1, none⟩ = some (.slice Bw C5 Bz) ∧ Bd.cell? ⟨W.heap.size, 2, none⟩ = some (.slice Bq Bu Bs) ∧ Bd.cell? ⟨w2.heap.size, 0, none⟩ = some (.bool Cg) ∧ Bd.cell? ⟨w2.heap.size, 1, none⟩ = some (.slice Cd Cf Ce) ∧ Bd.cell? ⟨w2.heap.size, 2, none⟩ = some (.slice Ca Cc Cb) ∧ Bd.cell? ⟨W.heap.size + 1, 0, none⟩ = some (.bool C6) ∧ Bd.cell? ⟨W.heap.size + 1, 1, none⟩ = some (.slice Bv C4 By) ∧ Bd.cell? ⟨W.heap.size + 1, 2, none⟩ = some (.slice Bp Bt Br) from ⟨Be, Bk, Bl, Bm, B4, B5, B6, B7, B8, B9⟩)
    refine U_take (i := 0) (v := ?_) rfl (by kernel_rfl) (by kernel_rfl) (by kernel_rfl) (by kernel_rfl) (fun _ _ _ h => h) (Or.inl ⟨by rfl, ?_⟩) hH ?_
    rotate_left
    ·intro w Bh
     try dsimp only at Bh
     go_simp
     try with_reducible rfl
    try simp only [Act.put, List.setIfInBounds_toArray, List.set_cons_zero, List.set_cons_succ]
    refine U_take (i := 1) (v := ?_) rfl (by kernel_rfl) (by kernel_rfl) (by kernel_rfl) (by kernel_rfl) (fun _ _ _ h => h) (Or.inl ⟨by rfl, ?_⟩) hH ?_
    rotate_left
    ·intro w Bh
     try dsimp only at Bh
     go_simp
     try with_reducible rfl
    try simp only [Act.put, List.setIfInBounds_toArray, List.set_cons_zero, List.set_cons_succ]
    refine U_take (i := 2) (v := ?_) rfl (by kernel_rfl) (by kernel_rfl) (by kernel_rfl) (by kernel_rfl) (fun _ _ _ h => h) (Or.inl ⟨by rfl, ?_⟩) hH ?_
    rotate_left
    ·intro w Bh
     try dsimp only at Bh
     go_simp
     try with_reducible rfl
    try simp only [Act.put, List.setIfInBounds_toArray, List.set_cons_zero, List.set_cons_succ]
    refine U_take (i := 3) (v := ?_) rfl (by kernel_rfl) (by kernel_rfl) (by kernel_rfl) (by kernel_rfl) (fun _ _ _ h => h) (Or.inl ⟨by rfl, ?_⟩) hH ?_
    rotate_left
    ·intro w Bh
     try dsimp only at Bh
     go_simp
     try with_reducible rfl
    try simp only [Act.put, List.setIfInBounds_toArray, List.set_cons_zero, List.set_cons_succ]
    clear hH
    refine U_one (i := 4) (by kernel_rfl) rfl (fun K hK => ?_)
    go_simp
    (with_reducible refine (pMul hz hr e2 e1).mono ?_)
    rintro e C9 ⟨_, rfl, hm, hb⟩
    obtain ⟨shm, ahm, nhm, chm, Ahm, Nhm, Chm, rfl⟩ := hm.shape
    replace hs := bStep hs hb
    replace B1 := B1.mono hb
    replace B0 := B0.mono hb
    replace Bb := Bb.mono hb
    replace Ba := Ba.mono hb
    replace B3 := B3.mono hb
    replace ht := ht.mono hb
    replace hr := hr.mono hb
    replace hz := hz.mono hb
    replace B2 := B2.mono (C2.kept PC.kept) hb
    replace hT := tkB _ _ _ hT hb
    replace Be := cellK Be hb
    replace Bk := cellK Bk hb
    replace Bl := cellK Bl hb
    replace Bm := cellK Bm hb
    replace B4 := cellK B4 hb
    replace B5 := cellK B5 hb
    replace B6 := cellK B6 hb
    replace B7 := cellK B7 hb
    replace B8 := cellK B8 hb
    replace B9 := cellK B9 hb
    clear hb
    try go_wp2_with fail
    refine hK.out _ _ ⟨Be, Bk, Bl, Bm, B4, B5, B6, B7, B8, B9⟩ (fun hH => ?_)
    clear hK K
    try simp only [Act.put, List.setIfInBounds_toArray, List.set_cons_zero, List.set_cons_succ]
    refine U_take (i := 5) (v := ?_) rfl (by kernel_rfl) (by kernel_rfl) (by kernel_rfl) (by kernel_rfl) (fun _ _ _ h => h) (Or.inl ⟨by rfl, ?_⟩) hH ?_
    rotate_left
    ·intro w Bh
     try dsimp only at Bh
     go_simp
     try with_reducible rfl
    try simp only [Act.put, List.setIfInBounds_toArray, List.set_cons_zero, List.set_cons_succ]
    clear hH
    refine U_one (i := 6) (by kernel_rfl) rfl (fun K hK => ?_)
    go_simp
    generalize hWn : (C9.alloc (.cells #[.bool C7, .slice Bw C5 Bz, .slice Bq Bu Bs, .bool shm, .slice ahm nhm chm, .slice Ahm Nhm Chm] 123)) = w43
    have hb : Below C9.heap.size C9 w43 := by rw [← hWn]; exact (Below.refl _ _).alloc (Nat.le_refl _) _
    have Ble : Bx w43 (C9.heap.size) 123 #[.bool C7, .slice Bw C5 Bz, .slice Bq Bu Bs, .bool shm, .slice ahm nhm chm, .slice Ahm Nhm Chm] := by rw [← hWn]; exact Bx.new _ _ _
    have no_e : wr.heap.size ≠ C9.heap.size := by have := B1.lt; omega
    have ns_e : w2.heap.size ≠ C9.heap.size := by have := B0.lt; omega
    have nq_e : w3.heap.size ≠ C9.heap.size := by have := Bb.lt; omega
    have nt_e : W.heap.size ≠ C9.heap.size := by have := Ba.lt; omega
    have nr_e : W.heap.size + 1 ≠ C9.heap.size := by have := B3.lt; omega
    have sz_e : w.heap.size ≤ C9.heap.size := hs.size
    replace hs := bStep hs hb
    replace B1 := B1.mono hb
    replace B0 := B0.mono hb
    replace Bb := Bb.mono hb
    replace Ba := Ba.mono hb
    replace B3 := B3.mono hb
    replace ht := ht.mono hb
    replace hr := hr.mono hb
    replace hz := hz.mono hb
    replace hm := hm.mono hb
    replace B2 := B2.mono (C2.kept PC.kept) hb
    replace hT := tkB _ _ _ hT hb
    replace Be := cellK Be hb
    replace Bk := cellK Bk hb
    replace Bl := cellK Bl hb
    replace Bm := cellK Bm hb
    replace B4 := cellK B4 hb
    replace B5 := cellK B5 hb
    replace B6 := cellK B6 hb
    replace B7 := cellK B7 hb
    replace B8 := cellK B8 hb
    replace B9 := cellK B9 hb
    clear hb hWn
    refine hK.out _ _ ⟨Be, Bk, Bl, Bm, B4, B5, B6, B7, B8, B9⟩ (fun hH => ?_)
    clear hK K
    try simp only [Act.put, List.setIfInBounds_toArray, List.set_cons_zero, List.set_cons_succ]
    clear hH
    refine U_one (i := 7) (by kernel_rfl) rfl (fun K hK => ?_)
    obtain ⟨css, ho1, ho2, ho3, Ci⟩ := B2
    simp only [List.getElem_toArray, List.getElem_cons_succ, List.getElem_cons_zero]
    rw [if_pos (by rfl)]
    refine wp_append_lies _ _ _ _ (by rfl) w.heap.size 123 i0 _ 6 112 Tryz.underlying116 hi hz0 hz1 hz2 (by rfl) (by omega) _ _ css.flatten (by rfl) Ci ⟨C9.heap.size, 0, none⟩ 1 1 [.bool C7, .slice Bw C5 Bz, .slice Bq Bu Bs, .bool shm, .slice ahm nhm chm, .slice Ahm Nhm Chm] (by rfl) (by rfl) Ble.news ?_ (by omega) ?_ ?_ ?_ _ rfl ?_
    ·intro u hu; simp only [List.mem_cons, List.mem_nil_iff, or_false] at hu; rcases hu with rfl | rfl | rfl | rfl | rfl | rfl <;> rfl
    ·unfold maxLen; (have := echoQ_length l k; omega)
    ·(have := echoQ_length l k; omega)
    ·exact hs.size
    intro Dc Cv Cs Da Cm hat hlt
    have hk := KeepD.owns Ci Cm (by decide)
    have ho := owns_onlyT Ci Cm
    replace hs := hs.grown Cm hs.size (fun k hk => (Ci.lt k hk).1)
    replace B2 := OwnR.push (C2.kept PC.kept) ho1 ho2 ho3 (x := (tmQ l (k + 1), lfQ l k * rfQ l k)) rfl ⟨[_, _, _], [_, _, _], rfl, ⟨_, _, _, rfl, ht⟩, ⟨_, _, _, rfl, hm⟩⟩ Da hk
    replace B1 := B1.only ho (by decide)
    replace B0 := B0.only ho (by decide)
    replace Bb := Bb.only ho (by decide)
    replace Ba := Ba.only ho (by decide)
    replace B3 := B3.only ho (by decide)
    replace ht := ht.keep hk
    replace hr := hr.keep hk
    replace hz := hz.keep hk
    replace hm := hm.keep hk
    replace hT := hT.only ho (by decide) (by decide)
    replace Be := B1.at 0 rfl
    replace Bk := Ba.at 0 rfl
    replace Bl := Ba.at 1 rfl
    replace Bm := Ba.at 2 rfl
    replace B4 := B0.at 0 rfl
    replace B5 := B0.at 1 rfl
    replace B6 := B0.at 2 rfl
    replace B7 := B3.at 0 rfl
    replace B8 := B3.at 1 rfl
    replace B9 := B3.at 2 rfl
    clear hk ho ho1 ho2 ho3 Ci Da Cm Ble
    refine hK.out _ _ ⟨Be, Bk, Bl, Bm, B4, B5, B6, B7, B8, B9⟩ (fun hH => ?_)
    clear hK K
    try simp only [Act.put, List.setIfInBounds_toArray, List.set_cons_zero, List.set_cons_succ]
    clear hH
    have Be := B1.a0
    have fo := B1.free
    have Lo := B1.lt
    refine U_last (by kernel_rfl) rfl (by kernel_rfl) (fun K hK => ?_)
    go_simp
    refine hK.out _ _ ?_
    clear hK K
    intro C8 hW
    have Cj := hs.size
    have lo := B1.lt
    have ls := B0.lt
    have lq := Bb.lt
    have lt := Ba.lt
    have lr := B3.lt
    have Bc : Below w.heap.size Cs C8 := by rw [hW]; exact (Below.setCell (Below.refl w.heap.size Cs) (by first | exact Nat.le_refl _ | omega | (have := hs.size; simp; done) | (have := hs.size; simp; omega)) _)
    have Bj : Below w.heap.size w C8 := hs.trans Bc
    have hk : KeepD Cs C8 := by rw [hW]; exact (KeepD.set (KeepD.refl _) B1.ty (by decide) _ _)
    have ho : OnlyT 116 Cs C8 := by rw [hW]; exact (OnlyT.set (OnlyT.refl _ _) B1.ty _ _)
    have Bf : Bx C8 (wr.heap.size) 116 #[.slice (some ⟨Dc, 0, none⟩) ((echoQ l k).length + 1) Cv] := by rw [hW]; exact (Bx.set B1 0 _ rfl)
    have Bg : Bx C8 (w2.heap.size) 32 #[.bool Cg, .slice Cd Cf Ce, .slice Ca Cc Cb] := by rw [hW]; exact (Bx.far B0 (by first | omega | (simp; done) | (simp; omega)) _)
    have Cn : Bx C8 (w3.heap.size) 121 #[.slice ao l.length Cu] := by rw [hW]; exact (Bx.far Bb (by first | omega | (simp; done) | (simp; omega)) _)
    have Cp : Bx C8 (W.heap.size) 32 #[.bool C7, .slice Bw C5 Bz, .slice Bq Bu Bs] := by rw [hW]; exact (Bx.far Ba (by first | omega | (simp; done) | (simp; omega)) _)
    have Co : Bx C8 (W.heap.size + 1) 32 #[.bool C6, .slice Bv C4 By, .slice Bp Bt Br] := by rw [hW]; exact (Bx.far B3 (by first | omega | (simp; done) | (simp; omega)) _)
    replace hs := Bj
    clear Bj
    have Cw : Tk W1.heap.size lp D (Bi .busy none) W3 C8 := by rw [hW]; exact (tkS _ _ _ hT (by first | exact Nat.le_refl _ | omega) B1.ty _ _)
    replace hT := Cw
    clear Cw
    replace B1 := Bf
    clear Bf
    replace B0 := Bg
    clear Bg
    replace Bb := Cn
    clear Cn
    replace Ba := Cp
    clear Cp
    replace B3 := Co
    clear Co
    replace ht := ht.keep hk
    replace hr := hr.keep hk
    replace hz := hz.keep hk
    replace hm := hm.keep hk
    replace B2 := B2.onlyT (C2.kept PC.kept) ho (by decide) (by decide)
    clear ho
    clear hW hk Cj Bc lo ls lq lt lr
    try simp only [Act.put, List.setIfInBounds_toArray, List.set_cons_zero, List.set_cons_succ]
    clear Be Bk Bl Bm B4 B5 B6 B7 B8 B9
    show Code.wpIn _ _ _ _ _ _ _
    refine R_region (S := fun w' => w'.cell? ⟨w2.heap.size, 0, none⟩ = some (.bool Cg) ∧ w'.cell? ⟨w2.heap.size, 1, none⟩ = some (.slice Cd Cf Ce) ∧ w'.cell? ⟨w2.heap.size, 2, none⟩ = some (.slice Ca Cc Cb) ∧ w'.cell? ⟨W.heap.size + 1, 0, none⟩ = some (.bool C6) ∧ w'.cell? ⟨W.heap.size + 1, 1, none⟩ = some (.slice Bv C4 By) ∧ w'.cell? ⟨W.heap.size + 1, 2, none⟩ = some (.slice Bp Bt Br)) (by kernel_rfl) (fun _ _ h => by have h' := And.left h; cases h') (by kernel_rfl) 7 ?_
    refine AnyU.abs ?_
    intro Bo hW
    have hb : Below C8.heap.size C8 Bo := by rw [hW]; exact bDrew _
    replace hs := bStep hs hb
    replace B1 := B1.mono hb
    replace B0 := B0.mono hb
    replace Bb := Bb.mono hb
    replace Ba := Ba.mono hb
    replace B3 := B3.mono hb
    replace ht := ht.mono hb
    replace hr := hr.mono hb
    replace hz := hz.mono hb
    replace hm := hm.mono hb
    replace B2 := B2.mono (C2.kept PC.kept) hb
    replace hT := tkB _ _ _ hT hb
    clear hb hW
    have B4 := B0.a0
    have B5 := B0.a1
    have B6 := B0.a2
    have B7 := B3.a0
    have B8 := B3.a1
    have B9 := B3.a2
    have hH := (show Bo.cell? ⟨w2.heap.size, 0, none⟩ = some (.bool Cg) ∧ Bo.cell? ⟨w2.heap.size, 1, none⟩ = some (.slice Cd Cf Ce) ∧ Bo.cell? ⟨w2.heap.size, 2, none⟩ = some (.slice Ca Cc Cb) ∧ Bo.cell? ⟨W.heap.size + 1, 0, none⟩ = some (.bool C6) ∧ Bo.cell? ⟨W.heap.size + 1, 1, none⟩ = some (.slice Bv C4 By) ∧ Bo.cell? ⟨W.heap.size + 1, 2, none⟩ = some (.slice Bp Bt Br) from ⟨B4, B5, B6, B7, B8, B9⟩)
    refine U_take (i := 0) (v := ?_) rfl (by kernel_rfl) (by kernel_rfl) (by kernel_rfl) (by kernel_rfl) (fun _ _ _ h => h) (Or.inl ⟨by rfl, ?_⟩) hH ?_
    rotate_left
    ·intro w Bh
     try dsimp only at Bh
     go_simp
     try with_reducible rfl
    try simp only [Act.put, List.setIfInBounds_toArray, List.set_cons_zero, List.set_cons_succ]
    refine U_take (i := 2) (v := ?_) rfl (by kernel_rfl) (by kernel_rfl) (by kernel_rfl) (by kernel_rfl) (fun _ _ _ h => h) (Or.inl ⟨by rfl, ?_⟩) hH ?_
    rotate_left
    ·intro w Bh
     try dsimp only at Bh
     go_simp
     try with_reducible rfl
    try simp only [Act.put, List.setIfInBounds_toArray, List.set_cons_zero, List.set_cons_succ]
    refine U_take (i := 3) (v := ?_) rfl (by kernel_rfl) (by kernel_rfl) (by kernel_rfl) (by kernel_rfl) (fun _ _ _ h => h) (Or.inl ⟨by rfl, ?_⟩) hH ?_
    rotate_left
    ·intro w Bh
     try dsimp only at Bh
     go_simp
     try with_reducible rfl
    try simp only [Act.put, List.setIfInBounds_toArray, List.set_cons_zero, List.set_cons_succ]
    clear hH
    refine U_one (i := 1) (by kernel_rfl) rfl (fun K hK => ?_)
    go_simp
    (with_reducible refine (sc_whole 1 _ (by decide) (by decide)).mono ?_)
    rintro e w47 ⟨_, rfl, C1, hb⟩
    obtain ⟨shun, ahun, nhun, chun, Ahun, Nhun, Chun, rfl⟩ := C1.shape
    replace hs := bStep hs hb
    replace B1 := B1.mono hb
    replace B0 := B0.mono hb
    replace Bb := Bb.mono hb
    replace Ba := Ba.mono hb
    replace B3 := B3.mono hb
    replace ht := ht.mono hb
    replace hr := hr.mono hb
    replace hz := hz.mono hb
    replace hm := hm.mono hb
    replace B2 := B2.mono (C2.kept PC.kept) hb
    replace hT := tkB _ _ _ hT hb
    replace B4 := cellK B4 hb
    replace B5 := cellK B5 hb
    replace B6 := cellK B6 hb
    replace B7 := cellK B7 hb
    replace B8 := cellK B8 hb
    replace B9 := cellK B9 hb
    clear hb
    replace C1 := C1.of_eq (show ((1 : Int) : Rat) = 1 from rfl)
    try go_wp2_with fail
    refine hK.out _ _ ⟨B4, B5, B6, B7, B8, B9⟩ (fun hH => ?_)
    clear hK K
    try simp only [Act.put, List.setIfInBounds_toArray, List.set_cons_zero, List.set_cons_succ]
    clear hH
    refine U_one (i := 4) (by kernel_rfl) rfl (fun K hK => ?_)
    go_simp
    (with_reducible refine (pMul hr hr e1 e1).mono ?_)
    rintro e w48 ⟨_, rfl, Ck, hb⟩
    obtain ⟨shrr, ahrr, nhrr, chrr, Ahrr, Nhrr, Chrr, rfl⟩ := Ck.shape
    replace hs := bStep hs hb
    replace B1 := B1.mono hb
    replace B0 := B0.mono hb
    replace Bb := Bb.mono hb
    replace Ba := Ba.mono hb
    replace B3 := B3.mono hb
    replace ht := ht.mono hb
    replace hr := hr.mono hb
    replace hz := hz.mono hb
    replace hm := hm.mono hb
    replace C1 := C1.mono hb
    replace B2 := B2.mono (C2.kept PC.kept) hb
    replace hT := tkB _ _ _ hT hb
    replace B4 := cellK B4 hb
    replace B5 := cellK B5 hb
    replace B6 := cellK B6 hb
    replace B7 := cellK B7 hb
    replace B8 := cellK B8 hb
    replace B9 := cellK B9 hb
    clear hb
    try go_wp2_with fail
    refine hK.out _ _ ⟨B4, B5, B6, B7, B8, B9⟩ (fun hH => ?_)
    clear hK K
    try simp only [Act.put, List.setIfInBounds_toArray, List.set_cons_zero, List.set_cons_succ]
    clear hH
    refine U_one (i := 5) (by kernel_rfl) rfl (fun K hK => ?_)
    go_simp
    (with_reducible refine (pSub C1 Ck szQ_one.fit e3).mono ?_)
    rintro e w49 ⟨_, rfl, hd, hb⟩
    obtain ⟨shd, ahd, nhd, chd, Ahd, Nhd, Chd, rfl⟩ := hd.shape
    replace hs := bStep hs hb
    replace B1 := B1.mono hb
    replace B0 := B0.mono hb
    replace Bb := Bb.mono hb
    replace Ba := Ba.mono hb
    replace B3 := B3.mono hb
    replace ht := ht.mono hb
    replace hr := hr.mono hb
    replace hz := hz.mono hb
    replace hm := hm.mono hb
    replace C1 := C1.mono hb
    replace Ck := Ck.mono hb
    replace B2 := B2.mono (C2.kept PC.kept) hb
    replace hT := tkB _ _ _ hT hb
    replace B4 := cellK B4 hb
    replace B5 := cellK B5 hb
    replace B6 := cellK B6 hb
    replace B7 := cellK B7 hb
    replace B8 := cellK B8 hb
    replace B9 := cellK B9 hb
    clear hb
    try go_wp2_with fail
    refine hK.out _ _ ⟨B4, B5, B6, B7, B8, B9⟩ (fun hH => ?_)
    clear hK K
    try simp only [Act.put, List.setIfInBounds_toArray, List.set_cons_zero, List.set_cons_succ]
    clear hH
    refine U_one (i := 6) (by kernel_rfl) rfl (fun K hK => ?_)
    go_simp
    (with_reducible refine (pMul hz hd e2 e4).mono ?_)
    rintro e Cl ⟨_, rfl, C0, hb⟩
    obtain ⟨shl2, ahl2, nhl2, chl2, Ahl2, Nhl2, Chl2, rfl⟩ := C0.shape
    replace hs := bStep hs hb
    replace B1 := B1.mono hb
    replace B0 := B0.mono hb
    replace Bb := Bb.mono hb
    replace Ba := Ba.mono hb
    replace B3 := B3.mono hb
    replace ht := ht.mono hb
    replace hr := hr.mono hb
    replace hz := hz.mono hb
    replace hm := hm.mono hb
    replace C1 := C1.mono hb
    replace Ck := Ck.mono hb
    replace hd := hd.mono hb
    replace B2 := B2.mono (C2.kept PC.kept) hb
    replace hT := tkB _ _ _ hT hb
    replace B4 := cellK B4 hb
    replace B5 := cellK B5 hb
    replace B6 := cellK B6 hb
    replace B7 := cellK B7 hb
    replace B8 := cellK B8 hb
    replace B9 := cellK B9 hb
    clear hb
    try go_wp2_with fail
    refine hK.out _ _ ⟨B4, B5, B6, B7, B8, B9⟩ (fun hH => ?_)
    clear hK K
    try simp only [Act.put, List.setIfInBounds_toArray, List.set_cons_zero, List.set_cons_succ]
    clear hH
    have B4 := B0.a0
    have B5 := B0.a1
    have B6 := B0.a2
    have fs := B0.free
    have Ls := B0.lt
    refine U_last (by kernel_rfl) rfl (by kernel_rfl) (fun K hK => ?_)
    go_simp
    refine hK.out _ _ ?_
    clear hK K
    intro Ch hW
    have Cj := hs.size
    have lo := B1.lt
    have ls := B0.lt
    have lq := Bb.lt
    have lt := Ba.lt
    have lr := B3.lt
    have Bc : Below w.heap.size Cl Ch := by rw [hW]; exact (Below.setCell (Below.setCell (Below.setCell (Below.refl w.heap.size Cl) (by first | exact Nat.le_refl _ | omega | (have := hs.size; simp; done) | (have := hs.size; simp; omega)) _) (by first | exact Nat.le_refl _ | omega | (have := hs.size; simp; done) | (have := hs.size; simp; omega)) _) (by first | exact Nat.le_refl _ | omega | (have := hs.size; simp; done) | (have := hs.size; simp; omega)) _)
    have Bj : Below w.heap.size w Ch := hs.trans Bc
    have hk : KeepD Cl Ch := by rw [hW]; exact (KeepD.set (KeepD.set (KeepD.set (KeepD.refl _) B0.ty (by decide) _ _) (TyB.store B0.ty _ _) (by decide) _ _) (TyB.store (TyB.store B0.ty _ _) _ _) (by decide) _ _)
    have ho : OnlyT 32 Cl Ch := by rw [hW]; exact (OnlyT.set (OnlyT.set (OnlyT.set (OnlyT.refl _ _) B0.ty _ _) (TyB.store B0.ty _ _) _ _) (TyB.store (TyB.store B0.ty _ _) _ _) _ _)
    have Bf : Bx Ch (wr.heap.size) 116 #[.slice (some ⟨Dc, 0, none⟩) ((echoQ l k).length + 1) Cv] := by rw [hW]; exact (Bx.far (Bx.far (Bx.far B1 (by first | omega | (simp; done) | (simp; omega)) _) (by first | omega | (simp; done) | (simp; omega)) _) (by first | omega | (simp; done) | (simp; omega)) _)
    have Bg : Bx Ch (w2.heap.size) 32 #[.bool shl2, .slice ahl2 nhl2 chl2, .slice Ahl2 Nhl2 Chl2] := by rw [hW]; exact (Bx.set (Bx.set (Bx.set B0 0 _ rfl) 1 _ rfl) 2 _ rfl)
    have Cn : Bx Ch (w3.heap.size) 121 #[.slice ao l.length Cu] := by rw [hW]; exact (Bx.far (Bx.far (Bx.far Bb (by first | omega | (simp; done) | (simp; omega)) _) (by first | omega | (simp; done) | (simp; omega)) _) (by first | omega | (simp; done) | (simp; omega)) _)
    have Cp : Bx Ch (W.heap.size) 32 #[.bool C7, .slice Bw C5 Bz, .slice Bq Bu Bs] := by rw [hW]; exact (Bx.far (Bx.far (Bx.far Ba (by first | omega | (simp; done) | (simp; omega)) _) (by first | omega | (simp; done) | (simp; omega)) _) (by first | omega | (simp; done) | (simp; omega)) _)
    have Co : Bx Ch (W.heap.size + 1) 32 #[.bool C6, .slice Bv C4 By, .slice Bp Bt Br] := by rw [hW]; exact (Bx.far (Bx.far (Bx.far B3 (by first | omega | (simp; done) | (simp; omega)) _) (by first | omega | (simp; done) | (simp; omega)) _) (by first | omega | (simp; done) | (simp; omega)) _)
    replace hs := Bj
    clear Bj
    have Cw : Tk W1.heap.size lp D (Bi .busy none) W3 Ch := by rw [hW]; exact (tkS _ _ _ (tkS _ _ _ (tkS _ _ _ hT (by first | exact Nat.le_refl _ | omega) B0.ty _ _) (by first | exact Nat.le_refl _ | omega) (TyB.store B0.ty _ _) _ _) (by first | exact Nat.le_refl _ | omega) (TyB.store (TyB.store B0.ty _ _) _ _) _ _)
    replace hT := Cw
    clear Cw
    replace B1 := Bf
    clear Bf
    replace B0 := Bg
    clear Bg
    replace Bb := Cn
    clear Cn
    replace Ba := Cp
    clear Cp
    replace B3 := Co
    clear Co
    replace ht := ht.keep hk
    replace hr := hr.keep hk
    replace hz := hz.keep hk
    replace hm := hm.keep hk
    replace C1 := C1.keep hk
    replace Ck := Ck.keep hk
    replace hd := hd.keep hk
    replace C0 := C0.keep hk
    replace B2 := B2.onlyT (C2.kept PC.kept) ho (by decide) (by decide)
    clear ho
    clear hW hk Cj Bc lo ls lq lt lr
    try simp only [Act.put, List.setIfInBounds_toArray, List.set_cons_zero, List.set_cons_succ]
    clear B4 B5 B6 B7 B8 B9
    refine And.intro (by first | trivial | rfl) (And.intro hT.lp (And.intro (by first | trivial | rfl) (And.intro ?_ (HRD.out _ hT))))
    exact EJ.put (L := Bi .busy none) ⟨hT.lp, hT.dd, hs, Bb, ⟨_, _, _, _, _, _, _, B0, C0⟩, _, B1, by rw [echoQ_succ]; exact B2⟩ (by omega) (by omega)
   case done =>
    clear B1 B0 Bb hz hs Cr hb e1 e2 HJ0 hyl
    rintro e W5 ⟨⟨x, rfl⟩, hJ⟩
    refine ⟨⟨_, rfl⟩, hJ.1, ?_⟩
    have hJ5 := EJ.put (L' := Bi .exhausted none) hJ (by omega) (by omega)
    obtain ⟨W6, hW6⟩ : ∃ W6, W5.putObj lp (.loop (Bi .exhausted none)) = W6 := ⟨_, rfl⟩
    rw [hW6] at hJ5 ⊢
    clear hJ hW6
    obtain ⟨-, hK, hs, -, -, ov, B1, B2⟩ := hJ5
    obtain ⟨ao2, cap2, rfl, _⟩ := B2.slice
    have Be := B1.at 0 rfl
    have HK := Lib.hid (And.intro hK (And.intro hs B2))
    clear hK hs B2 B1
    go_wp2
    refine ⟨by simp, .inl ⟨_, _, rfl, run_takeDeferred HK.out.1, ?_⟩⟩
    refine ⟨_, results_tmp2 rfl _ _ _, _, _, rfl, (HK.out.2.2.putD (C2.kept PC.kept) HK.out.1 rfl).rows, rfl, HK.out.2.1.trans (belowK_b (Nat.le_refl _) W6 D _ _ (by omega) HK.out.1 rfl rfl)⟩
end Go.Proofs.YtkfekkhhfpkfaaaGreat
