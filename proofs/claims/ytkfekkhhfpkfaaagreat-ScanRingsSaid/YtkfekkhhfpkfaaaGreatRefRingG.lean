/-
  Reference 07: Ring.
-/
import Derived.Test.YtkfekkhhfpkfaaaGreatRefRing0G
import Derived.Test.YtkfekkhhfpkfaaaGreatPkOwnG
import Derived.Test.YtkfekkhhfpkfaaaGreatPkSpanG
import Derived.Test.YtkfekkhhfpkfaaaGreatPkScanG
import Derived.Test.YtkfekkhhfpkfaaaGreatPliesG
import Derived.Test.YtkfekkhhfpkfaaaGreatPkHeld3G
import Derived.Test.YtkfekkhhfpkfaaaGreatRingHG
set_option linter.unusedSimpArgs false
set_option linter.unusedVariables false
set_option maxRecDepth 100000
set_option maxHeartbeats 16000000
namespace Go.Proofs.YtkfekkhhfpkfaaaGreat
open Go.RowKit Dg
attribute [local go_sem ↓] Go.wp_at_zero Go.wp_at_succ
theorem ownR_at {w : World} {base : Nat} {T : TypeId} {cap g : Nat} {L : List Rat} {i : Nat} (h : OwnG base T 3 RC cap w g L) (hi : i < L.length) :
  ∃ g' a n' c' A N D, w.cell? ⟨g, i * 3, none⟩ = some (.bool g') ∧ w.cell? ⟨g, i * 3 + 1, none⟩ = some (.slice a n' c') ∧ w.cell? ⟨g, i * 3 + 2, none⟩ = some (.slice A N D) ∧ RV w (.agg #[.bool g', .slice a n' c', .slice A N D]) (nthQ L i) ∧ g < w.heap.size := by
 obtain ⟨cs, _, hc, hat⟩ := h.cell (nthQ_some hi)
 obtain ⟨_, _, _, rfl, hr⟩ := hc
 obtain ⟨g1, a, n, c, A, N, D, e⟩ := hr.shape
 obtain ⟨rfl, rfl, rfl⟩ := agg3 e
 exact ⟨_, _, _, _, _, _, _, hat 0 _ rfl, hat 1 _ rfl, hat 2 _ rfl, hr, h.lt⟩
theorem OwnG.grown {α : Type} {base size : Nat} {T : TypeId} {R : World → List Value → α → Prop} {w w' : World} {g cap : Nat} {l : List α} (hR : Kept R) (h : OwnG base T size R cap w g l) {row : Option Nat} (hg : w.grownBy w' row) (hn : some g ≠ row) (hk : KeepD w w') : OwnG base T size R cap w' g l :=
 OwnR.grown hR h hg (.inr hn) hk
theorem ownRJ {α : Type} {base size : Nat} {T : TypeId} {R : World → List Value → α → Prop} {l : List α} (hR : Kept R) (v : Value) (W W' : World) (h : OwnR base T size R W v l) (hb : Below W.heap.size W W') : OwnR base T size R W' v l := h.mono hR hb
theorem r7_reflectZ {vx vy : Value} {L : List Rat} {i : Nat} (w : World) (hx : RV w vx (nthQ L i)) (hy : RV w vy (nthQ L (i + 1))) (sx : SzQ 1 (nthQ L i)) (sy : SzQ 1 (nthQ L (i + 1))) (h0 : nthQ L (i + 1) + nthQ L i ≠ 0) : Calls Tryz.prog 61 #[vx, vy] w (RetQ w (rgR L i)) :=
 r7_reflect _ _ _ _ _ hx hy sx.fit sy.fit (SzQ.sub sy sx).fit (SzQ.add sy sx).fit h0
theorem r7_Ring_ok (v : Value) (L : List Rat) (Kn : Nat) (w : World) (hl : Rows 3 38 RC w v L) (h2 : 2 ≤ L.length) (h5 : L.length ≤ 5) (hz : ∀ i, i < L.length → SzQ 1 (nthQ L i)) (hap : allPos L = true) (k1 : 1 ≤ Kn) (k6 : Kn ≤ 6) :
  Calls Tryz.prog 11 #[v, .int .i64 Kn] w (Ret4 (fun w v => Rows 3 38 RC w v (rgBks L Kn)) (fun w v => Rows 3 38 RC w v (rgThs L Kn)) (fun w v => RV w v (rgIns L Kn)) (fun _ v => v = .int .i64 0) w) := by
 obtain ⟨rb, ro, rc, rfl, hl1, hl2, -⟩ := hl.open_ (by omega)
 have hrb : rb < w.heap.size := hl.lt (by omega)
 have hs := Below.refl w.heap.size w
 have hp := nthQ_pos hap
 obtain ⟨n, hn1, hn2⟩ : ∃ n, L.length ≤ n + 1 ∧ n + 1 ≤ L.length := ⟨L.length - 1, by omega, by omega⟩
 obtain ⟨j0, hj, hy0, hy1, hy2⟩ := info_parts numR_info
 have HL := Lib.hid hl
 have HZ := Lib.hid hz
 have HPP := Lib.hid (fun i (hi : i < L.length) => hp i hi)
 have HPN := Lib.hid (fun i (hi : i < L.length) => (Rat.ne_of_gt (hp i hi) : nthQ L i ≠ 0))
 have HRS := Lib.hid (fun i hi => rgR_sz hz hp (i := i) hi)
 have HW := Lib.hid (fun t (ht : t ≤ 6) i => rgW_sz hz hp ht i)
 have HB := Lib.hid (fun t (ht : t ≤ 6) i hi => rgBk_sz hz hp ht (i := i) hi)
 have HIN := Lib.hid (fun i hi => rgIn_sz hz hp k6 i hi)
 clear hl hz hap hp
 go_enter Tryz.func11, Tryz.ntmps11
 go_upto_region 1 with fail
 refine Code.abs ?_
 intro w1 hW
 have hG : Gr [] w w1 := by rw [hW]; exact (Gr.refl _ _).alloc
 have hbw : Below w.heap.size w w1 := hG.below0 hs.size
 have hk : KeepD w w1 := hG.keep True.intro
 have sz_w1 : w.heap.size ≤ w.heap.size := hs.size
 have Blk : Bx w1 (w.heap.size) 38 #[.bool false, .slice none 0 0, .slice none 0 0] := by rw [hW]; exact (Bx.new0 _ _ _)
 replace hs := hs.trans hbw
 clear hW hG hk hbw
 have hz_w1 := Blk.lt
 have HB0_1 := Lib.hid hs
 clear hs
 have hs := Below.refl w1.heap.size w1
 have nb_k := Blk.lt
 have lw0 := nb_k
 have nb_rb : rb < w1.heap.size := by have := HB0_1.out.size; omega
 have q2 : ¬ (L.length < 2) := by omega
 have q2d : ((L.length : Int) < 2) = False := eq_false (by omega)
 have q3 : ¬ (12 < L.length) := by omega
 have q3d : ((12 : Int) < (L.length : Int)) = False := eq_false (by omega)
 go_wp2
 go_loopw [8] (fun s8 wq => ∃ k : Nat, k ≤ L.length ∧ s8 = .int .i64 k ∧ Below w1.heap.size w1 wq ∧ Bx wq (w.heap.size) 38 #[.bool false, .slice none 0 0, .slice none 0 0]) (fun s8 _ => L.length - (intOf s8).toNat)
 case atStart => exact ⟨0, Nat.zero_le _, rfl, hs, Blk⟩
 case round =>
  clear Blk hs
  obtain ⟨k, k_le, rfl, hs, Blk⟩ := hrel
  by_cases q4 : k < L.length
  ·have q4d : ((k : Int) < (L.length : Int)) = True := eq_true (by omega)
   have BI5a : k < L.length := by omega
   have BI5b : ((k : Int) : Int) < (L.length : Int) := by omega
   obtain ⟨ge6a, ae6a, ne6a, ce6a, Ae6a, Ne6a, De6a, Ct, Cu, Cv, he6a, le6⟩ := rowR_at (HL.out.mono RC.kept (bStep HB0_1.out hs)) (show k < L.length by omega)
   go_wp2_with fail
   clear le6 Ct Cu Cv
   with_reducible refine (rSign he6a).mono ?_
   rintro e w22 ⟨rfl, hb⟩
   replace hs := bStep hs hb
   replace Blk := Blk.mono hb
   replace he6a := he6a.mono hb
   clear hb
   obtain ⟨sg7, Hsg7⟩ : ∃ s : Int, s = sgQ (nthQ L k) := ⟨_, rfl⟩
   rw [← Hsg7]
   replace Hsg7 := Lib.hid Hsg7
   have q8 : ¬ (nthQ L k ≤ 0) := (Rat.not_le.2 (HPP.out k (by omega)))
   have q8_ : ¬ (sg7 ≤ 0) := by have h := s1_le (nthQ L k); rw [← Hsg7.out] at h; exact fun h1 => q8 (h.1 h1)
   have q8H := Lib.hid q8
   clear q8
   have q8d : decide (sg7 ≤ 0) = false := decide_eq_false q8_
   go_wp2
   go_roundw
   case rel => exact ⟨k + 1, by omega, by go_num, hs, Blk⟩
   all_goals first | (simp [intOf]; done) | (simp [intOf]; omega)
  ·have q4d : ((k : Int) < (L.length : Int)) = False := eq_false (by omega)
   have q5 : ¬ (Kn < 1) := by omega
   have q5d : ((Kn : Int) < 1) = False := eq_false (by omega)
   have q6 : ¬ (16 < Kn) := by omega
   have q6d : ((16 : Int) < (Kn : Int)) = False := eq_false (by omega)
   have WN := IntWalk.i64_in ((L.length : Int) - 1) (by omega)
   go_upto_region 11 with fail
   rw [show ((L.length : Int) - 1) = (n : Int) by omega]
   clear WN
   go_wp2
   go_loopw [10, 11, 12] (fun s10 s11 s12 wq => ∃ k : Nat, k ≤ n ∧ s12 = .int .i64 k ∧ Below w1.heap.size w1 wq ∧ Bx wq (w.heap.size) 38 #[.bool false, .slice none 0 0, .slice none 0 0] ∧ OwnR w1.heap.size 38 3 RC wq s10 (mapL (fun _ => 0) k) ∧ OwnR w1.heap.size 38 3 RC wq s11 (mapL (fun _ => 0) k) ∧ (Ap2 s10.ownBlock s11.ownBlock)) (fun s10 s11 s12 _ => n - (intOf s12).toNat)
   case atStart => exact ⟨0, Nat.zero_le _, rfl, hs, Blk, OwnR.nil _ _ _ _ _, OwnR.nil _ _ _ _ _, Ap2.nil _⟩
   case round =>
    clear Blk hs
    obtain ⟨k, k_le, rfl, hs, Blk, Olf, Ort, Aq_lf_rt⟩ := hrel
    by_cases q7 : k < n
    ·have q7d : ((k : Int) < (n : Int)) = True := eq_true (by omega)
     go_wp2_with fail
     with_reducible refine (r7_zero _).mono ?_
     rintro e w42 ⟨_, rfl, h8, hb⟩
     obtain ⟨sh8, ah8, nh8, ch8, Ah8, Nh8, Ch8, rfl⟩ := h8.shape
     replace hs := bStep hs hb
     replace Blk := Blk.mono hb
     replace Olf := Olf.mono RC.kept hb
     replace Ort := Ort.mono RC.kept hb
     clear hb
     go_wp2_with (at_builtin; refine wpList.stop ?_)
     refine ⟨?_⟩
     refine wpList.abs ?_
     intro w43 hW
     have hG : Gr [] w42 w43 := by rw [hW]; exact (Gr.refl _ _).alloc
     have hbw : Below w1.heap.size w42 w43 := hG.below0 hs.size
     have hk : KeepD w42 w43 := hG.keep True.intro
     have sz_w43 : w1.heap.size ≤ w42.heap.size := hs.size
     have nk_w43 := Blk.lt
     have C0 : Bx w43 (w42.heap.size) 38 #[.bool sh8, .slice ah8 nh8 ch8, .slice Ah8 Nh8 Ch8] := by rw [hW]; exact (Bx.new0 _ _ _)
     replace hs := hs.trans hbw
     replace Blk := hG.bx Blk notMem0
     replace h8 := h8.keep hk
     replace Olf := Olf.mono RC.kept (hG.below0 (Nat.le_refl _))
     replace Ort := Ort.mono RC.kept (hG.below0 (Nat.le_refl _))
     clear hW hG hk hbw
     have hz_w43 := C0.lt
     obtain ⟨css, ho1, ho2, ho3, hown0⟩ := Olf
     refine wpList_append_lies _ rfl _ _ _ rfl w1.heap.size 38 j0 _ 3 56 Tryz.underlying26 hj hy0 hy1 hy2 rfl (by omega) _ _ css.flatten rfl hown0 ⟨w42.heap.size, 0, none⟩ 1 1 [.bool sh8, .slice ah8 nh8 ch8, .slice Ah8 Nh8 Ch8] rfl rfl C0.news ?_ (by omega) ?_ ?_ ?_ _ rfl ?_
     ·intro u hu; simp only [List.mem_cons, List.mem_nil_iff, or_false] at hu; rcases hu with rfl | rfl | rfl <;> rfl
     ·unfold maxLen; (try simp only [mapL_len, List.length_append, List.length_cons, List.length_nil]); (try simp only [rgBks_n, rgThs_n]); omega
     ·(try simp only [mapL_len, List.length_append, List.length_cons, List.length_nil]); (try simp only [rgBks_n, rgThs_n]); omega
     ·exact hs.size
     intro glf caplf w44 hown1 hgrow hat hlt_
     have hk_ := KeepD.owns hown0 hgrow (by decide)
     have ho := owns_onlyT hown0 hgrow
     replace hs := hs.grown hgrow hs.size (fun k hk => (hown0.lt k hk).1)
     replace Olf := OwnR.push' RC.kept ho1 ho2 ho3 (x := 0) rfl ⟨_, _, _, rfl, h8⟩ (by simp) hown1 hk_
     replace Blk := Blk.grown hgrow (fun e => by have := (hown0.lt _ e.symm).1; omega)
     replace h8 := h8.keep hk_
     have Aq1 := Aq_lf_rt.app hat Ort (Nat.le_refl _)
     replace Ort := Ort.grown RC.kept hgrow Aq_lf_rt.or hk_
     replace Aq_lf_rt := Aq1
     clear Aq1
     clear hk_ ho ho1 ho2 ho3 hown0 hown1 hgrow hat hlt_ C0
     go_wp2_with fail
     with_reducible refine (r7_zero _).mono ?_
     rintro e w45 ⟨_, rfl, h9, hb⟩
     obtain ⟨sh9, ah9, nh9, ch9, Ah9, Nh9, Ch9, rfl⟩ := h9.shape
     replace hs := bStep hs hb
     replace Blk := Blk.mono hb
     replace h8 := h8.mono hb
     replace Olf := Olf.mono RC.kept hb
     replace Ort := Ort.mono RC.kept hb
     clear hb
     go_wp2_with (at_builtin; refine wpList.stop ?_)
     refine ⟨?_⟩
     refine wpList.abs ?_
     intro w46 hW
     have hG : Gr [] w45 w46 := by rw [hW]; exact (Gr.refl _ _).alloc
     have hbw : Below w1.heap.size w45 w46 := hG.below0 hs.size
     have hk : KeepD w45 w46 := hG.keep True.intro
     have sz_w46 : w1.heap.size ≤ w45.heap.size := hs.size
     have nk_w46 := Blk.lt
     have Ca : Bx w46 (w45.heap.size) 38 #[.bool sh9, .slice ah9 nh9 ch9, .slice Ah9 Nh9 Ch9] := by rw [hW]; exact (Bx.new0 _ _ _)
     replace hs := hs.trans hbw
     replace Blk := hG.bx Blk notMem0
     replace h8 := h8.keep hk
     replace h9 := h9.keep hk
     replace Olf := Olf.mono RC.kept (hG.below0 (Nat.le_refl _))
     replace Ort := Ort.mono RC.kept (hG.below0 (Nat.le_refl _))
     clear hW hG hk hbw
     have hz_w46 := Ca.lt
     obtain ⟨css, ho1, ho2, ho3, hown0⟩ := Ort
     refine wpList_append_lies _ rfl _ _ _ rfl w1.heap.size 38 j0 _ 3 56 Tryz.underlying26 hj hy0 hy1 hy2 rfl (by omega) _ _ css.flatten rfl hown0 ⟨w45.heap.size, 0, none⟩ 1 1 [.bool sh9, .slice ah9 nh9 ch9, .slice Ah9 Nh9 Ch9] rfl rfl Ca.news ?_ (by omega) ?_ ?_ ?_ _ rfl ?_
     ·intro u hu; simp only [List.mem_cons, List.mem_nil_iff, or_false] at hu; rcases hu with rfl | rfl | rfl <;> rfl
     ·unfold maxLen; (try simp only [mapL_len, List.length_append, List.length_cons, List.length_nil]); (try simp only [rgBks_n, rgThs_n]); omega
     ·(try simp only [mapL_len, List.length_append, List.length_cons, List.length_nil]); (try simp only [rgBks_n, rgThs_n]); omega
     ·exact hs.size
     intro grt caprt w47 hown1 hgrow hat hlt_
     have hk_ := KeepD.owns hown0 hgrow (by decide)
     have ho := owns_onlyT hown0 hgrow
     replace hs := hs.grown hgrow hs.size (fun k hk => (hown0.lt k hk).1)
     replace Ort := OwnR.push' RC.kept ho1 ho2 ho3 (x := 0) rfl ⟨_, _, _, rfl, h9⟩ (by simp) hown1 hk_
     replace Blk := Blk.grown hgrow (fun e => by have := (hown0.lt _ e.symm).1; omega)
     replace h8 := h8.keep hk_
     replace h9 := h9.keep hk_
     have Aq1 := (Aq_lf_rt.symm.app hat Olf (Nat.le_refl _)).symm
     replace Olf := Olf.grown RC.kept hgrow Aq_lf_rt.symm.or hk_
     replace Aq_lf_rt := Aq1
     clear Aq1
     clear hk_ ho ho1 ho2 ho3 hown0 hown1 hgrow hat hlt_ Ca
     go_wp2
     go_roundw
     case rel => exact ⟨k + 1, by omega, by go_num, hs, Blk, (by rw [← mapL_succ (f := fun _ => 0) rfl]; exact Olf), (by rw [← mapL_succ (f := fun _ => 0) rfl]; exact Ort), Aq_lf_rt⟩
     all_goals first | (simp [intOf]; done) | (simp [intOf]; omega)
    ·have q7d : ((k : Int) < (n : Int)) = False := eq_false (by omega)
     obtain rfl : n = k := by omega
     obtain ⟨glf, clf, elf, lowlf, -, -⟩ := Olf.openG (by simp only [mapL_len]; omega)
     simp only [mapL_len] at elf
     subst elf
     have Vlf : OwnG w1.heap.size 38 3 RC clf wr (glf) (mapL (fun _ => 0) n) := by unfold OwnG; rw [mapL_len]; exact Olf
     clear Olf
     obtain ⟨grt, crt, ert, lowrt, -, -⟩ := Ort.openG (by simp only [mapL_len]; omega)
     simp only [mapL_len] at ert
     subst ert
     have Vrt : OwnG w1.heap.size 38 3 RC crt wr (grt) (mapL (rgW L 0).2 n) := by unfold OwnG; rw [mapL_len]; exact Ort
     clear Ort
     have nlr : glf ≠ grt := fun e => Aq_lf_rt glf rfl (congrArg some e.symm)
     have nrl : grt ≠ glf := fun e => nlr e.symm
     clear Aq_lf_rt
     go_wp2_with fail
     with_reducible refine (r7_one _).mono ?_
     rintro e w42 ⟨_, rfl, h8, hb⟩
     obtain ⟨sh8, ah8, nh8, ch8, Ah8, Nh8, Ch8, rfl⟩ := h8.shape
     replace hs := bStep hs hb
     replace Blk := Blk.mono hb
     replace Vlf := OwnG.mono RC.kept Vlf hb
     replace Vrt := OwnG.mono RC.kept Vrt hb
     clear hb
     have BI9a : 0 < n := by omega
     have BI9b : (0 : Int) < (n : Int) := by omega
     obtain ⟨ge10, ae10, ne10, ce10, Ae10, Ne10, De10, Ce, Cf, Cg, he10, le10⟩ := ownR_at Vlf (show 0 < (mapL (fun _ => 0) n).length by (simp only [List.length_set, mapL_len]; omega))
     simp only [Nat.zero_mul, Nat.zero_add] at Ce Cf Cg
     have fVlf := Vlf.free
     have LVlf := Vlf.lt
     go_upto_region 17 with fail
     clear fVlf LVlf le10 Ce Cf Cg
     refine Code.abs ?_
     intro w43 hW
     have hG : Gr [glf] w42 w43 := by rw [hW]; exact (Gr.refl _ _).set.set.set
     have hsz := hs.size
     have hbw : Below w1.heap.size w42 w43 := hG.below1 hs.size (by first | omega | assumption)
     have hk : KeepD w42 w43 := hG.keep ⟨⟨_, Vlf.ty, by decide⟩, True.intro⟩
     have V1lf : OwnG w1.heap.size 38 3 RC clf w43 (glf) ((mapL (fun _ => 0) n).set 0 (1)) := by rw [hW]; exact Vlf.put3 RC.kept (show 0 < (mapL (fun _ => 0) n).length by simp only [List.length_set, mapL_len]; omega) (by decide) ⟨_, _, _, rfl, h8⟩ ((Gr.refl _ _))
     rw [lf_zero (L := L) (by omega)] at V1lf
     replace hs := hs.trans hbw
     replace Vrt := OwnG.gr RC.kept Vrt hG (notMem1 (by omega)) hk
     replace Blk := hG.bx Blk (notMem1 (by omega))
     replace Vlf := V1lf
     clear V1lf
     replace h8 := h8.keep hk
     replace he10 := he10.keep hk
     clear hW hG hk hbw hsz
     go_wp2
     go_loopw [13, 14, 15] (fun s13 s14 s15 wq => ∃ t : Nat, t ≤ Kn ∧ s15 = .int .i64 t ∧ Below w1.heap.size w1 wq ∧ Bx wq (w.heap.size) 38 #[.bool false, .slice none 0 0, .slice none 0 0] ∧ RV wq (.agg #[.bool sh8, .slice ah8 nh8 ch8, .slice Ah8 Nh8 Ch8]) (1) ∧ RV wq (.agg #[.bool ge10, .slice ae10 ne10 ce10, .slice Ae10 Ne10 De10]) (nthQ (mapL (fun _ => 0) n) 0) ∧ OwnR w1.heap.size 38 3 RC wq s13 (rgBks L t) ∧ OwnR w1.heap.size 38 3 RC wq s14 (rgThs L t) ∧ (Ap s13.ownBlock glf) ∧ (Ap s13.ownBlock grt) ∧ (Ap s14.ownBlock glf) ∧ (Ap s14.ownBlock grt) ∧ (OwnG w1.heap.size 38 3 RC clf wq (glf) (mapL (rgW L t).1 n)) ∧ (OwnG w1.heap.size 38 3 RC crt wq (grt) (mapL (rgW L t).2 n)) ∧ (Ap2 s13.ownBlock s14.ownBlock)) (fun s13 s14 s15 _ => Kn - (intOf s15).toNat)
     case atStart => exact ⟨0, Nat.zero_le _, rfl, hs, Blk, h8, he10, OwnR.nil _ _ _ _ _, OwnR.nil _ _ _ _ _, (fun h => by cases h), (fun h => by cases h), (fun h => by cases h), (fun h => by cases h), Vlf, Vrt, Ap2.nil _⟩
     case round =>
      clear Blk h8 he10 hs
      obtain ⟨t, k_le, rfl, hs, Blk, h8, he10, Obk, Oth, Aq_bk_lf, Aq_bk_rt, Aq_th_lf, Aq_th_rt, Vlf, Vrt, Aq_bk_th⟩ := hrel
      obtain ⟨wt, hwo⟩ : ∃ x, x = wr := ⟨_, rfl⟩
      subst hwo
      replace Vlf := Lib.hid Vlf
      replace Vrt := Lib.hid Vrt
      replace Vlf := Vlf.out
      replace Vrt := Vrt.out
      by_cases q11 : t < Kn
      ·have q11d : ((t : Int) < (Kn : Int)) = True := eq_true (by omega)
       go_wp2
       have nb_lf := Vlf.lt
       have nb_rt := Vrt.lt
       have nb_rb2 : rb < wt.heap.size := by have := hs.size; omega
       go_wp2
       have HB1_12 := Lib.hid hs
       clear hs
       have hs := Below.refl wt.heap.size wt
       have nb_k := Blk.lt
       have FVlf := Lib.hid Vlf
       clear Vlf
       have FVrt := Lib.hid Vrt
       clear Vrt
       have FObk := Lib.hid Obk
       clear Obk
       have FOth := Lib.hid Oth
       clear Oth
       go_loopw [16, 17, 18] (fun s16 s17 s18 wq => ∃ i : Nat, i ≤ n ∧ s18 = .int .i64 i ∧ Below wt.heap.size wt wq ∧ Bx wq (w.heap.size) 38 #[.bool false, .slice none 0 0, .slice none 0 0] ∧ RV wq (.agg #[.bool sh8, .slice ah8 nh8 ch8, .slice Ah8 Nh8 Ch8]) (1) ∧ RV wq (.agg #[.bool ge10, .slice ae10 ne10 ce10, .slice Ae10 Ne10 De10]) (nthQ (mapL (fun _ => 0) n) 0) ∧ OwnR wt.heap.size 38 3 RC wq s16 (mapL (tlQ L (rgW L t)) i) ∧ OwnR wt.heap.size 38 3 RC wq s17 (mapL (trQ L (rgW L t)) i) ∧ (Ap2 s16.ownBlock s17.ownBlock)) (fun s16 s17 s18 _ => n - (intOf s18).toNat)
       case atStart => exact ⟨0, Nat.zero_le _, rfl, hs, Blk, h8, he10, OwnR.nil _ _ _ _ _, OwnR.nil _ _ _ _ _, Ap2.nil _⟩
       case round =>
        clear Blk h8 he10 hs
        obtain ⟨i, k_le, rfl, hs, Blk, h8, he10, Otl, Otr, Aq_tl_tr⟩ := hrel
        obtain ⟨wi, hwo⟩ : ∃ x, x = wr := ⟨_, rfl⟩
        subst hwo
        by_cases q13 : i < n
        ·have q13d : ((i : Int) < (n : Int)) = True := eq_true (by omega)
         go_upto_region 25 with fail
         have BI14a : i < L.length := by omega
         have BI14b : ((i : Int) : Int) < (L.length : Int) := by omega
         obtain ⟨ge15a, ae15a, ne15a, ce15a, Ae15a, Ne15a, De15a, Bw, By, Bz, he15a, le15⟩ := rowR_at (HL.out.mono RC.kept (bStep HB0_1.out (bStep HB1_12.out hs))) (show i < L.length by omega)
         have SW16a := IntWalk.i64_in ((i : Int) + 1) (by omega)
         have SW16b : (0 : Int) ≤ (i : Int) + 1 := by omega
         have SW16c : ((i : Int) + 1).toNat = (i + 1) := by omega
         have SW16d : (i : Int) + 1 < (L.length : Int) := by omega
         have BI17a : (i + 1) < L.length := by omega
         have BI17b : ((i : Int) + 1 : Int) < (L.length : Int) := by omega
         obtain ⟨ge18a, ae18a, ne18a, ce18a, Ae18a, Ne18a, De18a, Bt, Bu, Bv, he18a, le18⟩ := rowR_at (HL.out.mono RC.kept (bStep HB0_1.out (bStep HB1_12.out hs))) (show (i + 1) < L.length by omega)
         go_cut [19] (fun kv0 wz => ∃ gr sh19 ah19 nh19 ch19 Ah19 Nh19 Ch19, kv0 = .pointer (some ⟨gr, 0, none⟩) ∧ wt.heap.size ≤ gr ∧ gr ≠ w.heap.size ∧ Ap u16.ownBlock gr ∧ Ap u17.ownBlock gr ∧ Bx wz gr 38 #[.bool sh19, .slice ah19 nh19 ch19, .slice Ah19 Nh19 Ch19] ∧ Below wt.heap.size wt wz ∧ Bx wz (w.heap.size) 38 #[.bool false, .slice none 0 0, .slice none 0 0] ∧ RV wz (.agg #[.bool sh8, .slice ah8 nh8 ch8, .slice Ah8 Nh8 Ch8]) (1) ∧ RV wz (.agg #[.bool ge10, .slice ae10 ne10 ce10, .slice Ae10 Ne10 De10]) (nthQ (mapL (fun _ => 0) n) 0) ∧ RV wz (.agg #[.bool ge15a, .slice ae15a ne15a ce15a, .slice Ae15a Ne15a De15a]) (nthQ L i) ∧ RV wz (.agg #[.bool ge18a, .slice ae18a ne18a ce18a, .slice Ae18a Ne18a De18a]) (nthQ L (i + 1)) ∧ RV wz (.agg #[.bool sh19, .slice ah19 nh19 ch19, .slice Ah19 Nh19 Ch19]) (rgR L i) ∧ OwnR wt.heap.size 38 3 RC wz u16 ((mapL (tlQ L (rgW L t)) i)) ∧ OwnR wt.heap.size 38 3 RC wz u17 ((mapL (trQ L (rgW L t)) i)))
         case first =>
          refine U_region (S := fun w' => w'.cell? ⟨rb, ro + i * 3, none⟩ = some (.bool ge15a) ∧ w'.cell? ⟨rb, ro + i * 3 + 1, none⟩ = some (.slice ae15a ne15a ce15a) ∧ w'.cell? ⟨rb, ro + i * 3 + 2, none⟩ = some (.slice Ae15a Ne15a De15a) ∧ w'.cell? ⟨rb, ro + (i + 1) * 3, none⟩ = some (.bool ge18a) ∧ w'.cell? ⟨rb, ro + (i + 1) * 3 + 1, none⟩ = some (.slice ae18a ne18a ce18a) ∧ w'.cell? ⟨rb, ro + (i + 1) * 3 + 2, none⟩ = some (.slice Ae18a Ne18a De18a)) (by kernel_rfl) 11 ?_
          refine AnyU.abs ?_
          intro w84 hW
          have hb : Below wi.heap.size wi w84 := by rw [hW]; exact bDrew _
          replace hs := bStep hs hb
          replace Blk := Blk.mono hb
          replace h8 := h8.mono hb
          replace he10 := he10.mono hb
          replace he15a := he15a.mono hb
          replace he18a := he18a.mono hb
          replace Otl := Otl.mono RC.kept hb
          replace Otr := Otr.mono RC.kept hb
          replace Bw := cellK Bw hb
          replace By := cellK By hb
          replace Bz := cellK Bz hb
          replace Bt := cellK Bt hb
          replace Bu := cellK Bu hb
          replace Bv := cellK Bv hb
          clear hb hW
          have hH := (show w84.cell? ⟨rb, ro + i * 3, none⟩ = some (.bool ge15a) ∧ w84.cell? ⟨rb, ro + i * 3 + 1, none⟩ = some (.slice ae15a ne15a ce15a) ∧ w84.cell? ⟨rb, ro + i * 3 + 2, none⟩ = some (.slice Ae15a Ne15a De15a) ∧ w84.cell? ⟨rb, ro + (i + 1) * 3, none⟩ = some (.bool ge18a) ∧ w84.cell? ⟨rb, ro + (i + 1) * 3 + 1, none⟩ = some (.slice ae18a ne18a ce18a) ∧ w84.cell? ⟨rb, ro + (i + 1) * 3 + 2, none⟩ = some (.slice Ae18a Ne18a De18a) from ⟨Bw, By, Bz, Bt, Bu, Bv⟩)
          refine U_tt 0 ?_ ?_ hH ?_
          rotate_left
          ·(intro w hSw; (try dsimp only at hSw); go_simp; try with_reducible rfl)
          try simp only [LY]
          refine U_tt 1 ?_ ?_ hH ?_
          rotate_left
          ·(intro w hSw; (try dsimp only at hSw); go_simp; try with_reducible rfl)
          try simp only [LY]
          refine U_tt 2 ?_ ?_ hH ?_
          rotate_left
          ·(intro w hSw; (try dsimp only at hSw); go_simp; try with_reducible rfl)
          try simp only [LY]
          refine U_tt 3 ?_ ?_ hH ?_
          rotate_left
          ·(intro w hSw; (try dsimp only at hSw); go_simp; try with_reducible rfl)
          try simp only [LY]
          refine U_tt 4 ?_ ?_ hH ?_
          rotate_left
          ·(intro w hSw; (try dsimp only at hSw); go_simp; try with_reducible rfl)
          try simp only [LY]
          refine U_tt 5 ?_ ?_ hH ?_
          rotate_left
          ·(intro w hSw; (try dsimp only at hSw); go_simp; try with_reducible rfl)
          try simp only [LY]
          refine U_tt 6 ?_ ?_ hH ?_
          rotate_left
          ·(intro w hSw; (try dsimp only at hSw); go_simp; try with_reducible rfl)
          try simp only [LY]
          refine U_tt 7 ?_ ?_ hH ?_
          rotate_left
          ·(intro w hSw; (try dsimp only at hSw); go_simp; try with_reducible rfl)
          try simp only [LY]
          refine U_tt 8 ?_ ?_ hH ?_
          rotate_left
          ·(intro w hSw; (try dsimp only at hSw); go_simp; try with_reducible rfl)
          try simp only [LY]
          refine U_two (i := 9) (j := 10) (by kernel_rfl) rfl rfl (fun K hK => ?_) (fun K hK => ?_)
          ·clear hH
           go_simp
           (with_reducible refine (r7_reflectZ _ he15a he18a (HZ.out i (by omega)) (HZ.out (i + 1) (by omega)) (HRS.out i (by omega)).2).mono ?_)
           rintro e w85 ⟨_, rfl, h19, hb⟩
           obtain ⟨sh19, ah19, nh19, ch19, Ah19, Nh19, Ch19, rfl⟩ := h19.shape
           replace hs := bStep hs hb
           replace Blk := Blk.mono hb
           replace h8 := h8.mono hb
           replace he10 := he10.mono hb
           replace he15a := he15a.mono hb
           replace he18a := he18a.mono hb
           replace Otl := Otl.mono RC.kept hb
           replace Otr := Otr.mono RC.kept hb
           replace Bw := cellK Bw hb
           replace By := cellK By hb
           replace Bz := cellK Bz hb
           replace Bt := cellK Bt hb
           replace Bu := cellK Bu hb
           replace Bv := cellK Bv hb
           clear hb
           try go_wp2_with fail
           refine hK.out _ _ ⟨Bw, By, Bz, Bt, Bu, Bv⟩ (fun hH => ?_)
           clear hK K
           try simp only [LY]
           clear hH
           refine U_one (i := 10) (by kernel_rfl) rfl (fun K hK => ?_)
           go_simp
           generalize hWn : (w85.alloc (.cells #[.bool false, .slice none 0 0, .slice none 0 0] 38)) = w86
           have hb : Below w85.heap.size w85 w86 := by rw [← hWn]; exact (Below.refl _ _).alloc (Nat.le_refl _) _
           have Blr : Bx w86 (w85.heap.size) 38 #[.bool false, .slice none 0 0, .slice none 0 0] := by rw [← hWn]; exact Bx.new _ _ _
           have nk_r : w.heap.size ≠ w85.heap.size := by have := Blk.lt; omega
           have sz_r : wt.heap.size ≤ w85.heap.size := hs.size
           have Ap_tl_r := Otl.ap (g := w85.heap.size) (Nat.le_refl _)
           have Ap_tr_r := Otr.ap (g := w85.heap.size) (Nat.le_refl _)
           replace hs := bStep hs hb
           replace Blk := Blk.mono hb
           replace h8 := h8.mono hb
           replace he10 := he10.mono hb
           replace he15a := he15a.mono hb
           replace he18a := he18a.mono hb
           replace h19 := h19.mono hb
           replace Otl := Otl.mono RC.kept hb
           replace Otr := Otr.mono RC.kept hb
           replace Bw := cellK Bw hb
           replace By := cellK By hb
           replace Bz := cellK Bz hb
           replace Bt := cellK Bt hb
           replace Bu := cellK Bu hb
           replace Bv := cellK Bv hb
           clear hb hWn
           refine hK.out _ _ ⟨Bw, By, Bz, Bt, Bu, Bv⟩ (fun hH => ?_)
           clear hK K
           try simp only [LY]
           clear hH
           have Ba := Blr.a0
           have Bb := Blr.a1
           have Bc := Blr.a2
           have fr := Blr.free
           have Lr := Blr.lt
           refine U_last (by kernel_rfl) rfl (by kernel_rfl) (fun K hK => ?_)
           go_simp
           refine hK.out _ _ ?_
           clear hK K
           intro w87 hW
           have hG : Gr [w85.heap.size] w86 w87 := by rw [hW]; exact (Gr.refl _ _).set.set.set
           have hsz := hs.size
           have lr := Blr.lt
           have hbw : Below wt.heap.size w86 w87 := hG.below1 hs.size (by first | omega | assumption)
           have hk : KeepD w86 w87 := hG.keep ⟨⟨_, Blr.ty, by decide⟩, True.intro⟩
           have Bl1r : Bx w87 (w85.heap.size) 38 #[.bool sh19, .slice ah19 nh19 ch19, .slice Ah19 Nh19 Ch19] := by rw [hW]; exact Blr.set3
           replace hs := hs.trans hbw
           replace Blk := hG.bx Blk (notMem1 (by omega))
           replace Blr := Bl1r
           clear Bl1r
           replace h8 := h8.keep hk
           replace he10 := he10.keep hk
           replace he15a := he15a.keep hk
           replace he18a := he18a.keep hk
           replace h19 := h19.keep hk
           replace Otl := Otl.gr RC.kept hG (Ap_tl_r).one hk
           replace Otr := Otr.gr RC.kept hG (Ap_tr_r).one hk
           clear hW hG hk hbw hsz lr
           try simp only [LY]
           clear Bw By Bz Bt Bu Bv
           go_wp2_with fail
           go_meet
           exact ⟨w85.heap.size, _, _, _, _, _, _, _, rfl, (by first | exact sz_r | omega), (by omega), Ap_tl_r, Ap_tr_r, Blr, hs, Blk, h8, he10, he15a, he18a, h19, Otl, Otr⟩
          ·clear hH
           go_simp
           generalize hWn : (w84.alloc (.cells #[.bool false, .slice none 0 0, .slice none 0 0] 38)) = w85
           have hb : Below w84.heap.size w84 w85 := by rw [← hWn]; exact (Below.refl _ _).alloc (Nat.le_refl _) _
           have Blr : Bx w85 (w84.heap.size) 38 #[.bool false, .slice none 0 0, .slice none 0 0] := by rw [← hWn]; exact Bx.new _ _ _
           have nk_r : w.heap.size ≠ w84.heap.size := by have := Blk.lt; omega
           have sz_r : wt.heap.size ≤ w84.heap.size := hs.size
           have Ap_tl_r := Otl.ap (g := w84.heap.size) (Nat.le_refl _)
           have Ap_tr_r := Otr.ap (g := w84.heap.size) (Nat.le_refl _)
           replace hs := bStep hs hb
           replace Blk := Blk.mono hb
           replace h8 := h8.mono hb
           replace he10 := he10.mono hb
           replace he15a := he15a.mono hb
           replace he18a := he18a.mono hb
           replace Otl := Otl.mono RC.kept hb
           replace Otr := Otr.mono RC.kept hb
           replace Bw := cellK Bw hb
           replace By := cellK By hb
           replace Bz := cellK Bz hb
           replace Bt := cellK Bt hb
           replace Bu := cellK Bu hb
           replace Bv := cellK Bv hb
           clear hb hWn
           refine hK.out _ _ ⟨Bw, By, Bz, Bt, Bu, Bv⟩ (fun hH => ?_)
           clear hK K
           try simp only [LY]
           clear hH
           refine U_one (i := 9) (by kernel_rfl) rfl (fun K hK => ?_)
           go_simp
           (with_reducible refine (r7_reflectZ _ he15a he18a (HZ.out i (by omega)) (HZ.out (i + 1) (by omega)) (HRS.out i (by omega)).2).mono ?_)
           rintro e w86 ⟨_, rfl, h19, hb⟩
           obtain ⟨sh19, ah19, nh19, ch19, Ah19, Nh19, Ch19, rfl⟩ := h19.shape
           replace hs := bStep hs hb
           replace Blk := Blk.mono hb
           replace Blr := Blr.mono hb
           replace h8 := h8.mono hb
           replace he10 := he10.mono hb
           replace he15a := he15a.mono hb
           replace he18a := he18a.mono hb
           replace Otl := Otl.mono RC.kept hb
           replace Otr := Otr.mono RC.kept hb
           replace Bw := cellK Bw hb
           replace By := cellK By hb
           replace Bz := cellK Bz hb
           replace Bt := cellK Bt hb
           replace Bu := cellK Bu hb
           replace Bv := cellK Bv hb
           clear hb
           try go_wp2_with fail
           refine hK.out _ _ ⟨Bw, By, Bz, Bt, Bu, Bv⟩ (fun hH => ?_)
           clear hK K
           try simp only [LY]
           clear hH
           have Ba := Blr.a0
           have Bb := Blr.a1
           have Bc := Blr.a2
           have fr := Blr.free
           have Lr := Blr.lt
           refine U_last (by kernel_rfl) rfl (by kernel_rfl) (fun K hK => ?_)
           go_simp
           refine hK.out _ _ ?_
           clear hK K
           intro w87 hW
           have hG : Gr [w84.heap.size] w86 w87 := by rw [hW]; exact (Gr.refl _ _).set.set.set
           have hsz := hs.size
           have lr := Blr.lt
           have hbw : Below wt.heap.size w86 w87 := hG.below1 hs.size (by first | omega | assumption)
           have hk : KeepD w86 w87 := hG.keep ⟨⟨_, Blr.ty, by decide⟩, True.intro⟩
           have Bl1r : Bx w87 (w84.heap.size) 38 #[.bool sh19, .slice ah19 nh19 ch19, .slice Ah19 Nh19 Ch19] := by rw [hW]; exact Blr.set3
           replace hs := hs.trans hbw
           replace Blk := hG.bx Blk (notMem1 (by omega))
           replace Blr := Bl1r
           clear Bl1r
           replace h8 := h8.keep hk
           replace he10 := he10.keep hk
           replace he15a := he15a.keep hk
           replace he18a := he18a.keep hk
           replace h19 := h19.keep hk
           replace Otl := Otl.gr RC.kept hG (Ap_tl_r).one hk
           replace Otr := Otr.gr RC.kept hG (Ap_tr_r).one hk
           clear hW hG hk hbw hsz lr
           try simp only [LY]
           clear Bw By Bz Bt Bu Bv
           go_wp2_with fail
           go_meet
           exact ⟨w84.heap.size, _, _, _, _, _, _, _, rfl, (by first | exact sz_r | omega), (by omega), Ap_tl_r, Ap_tr_r, Blr, hs, Blk, h8, he10, he15a, he18a, h19, Otl, Otr⟩
         case rest =>
          clear hs Bw By Bz Bt Bu Bv Blk h8 he10 he15a he18a Otl Otr
          obtain ⟨gr, sh19, ah19, nh19, ch19, Ah19, Nh19, Ch19, rfl, hg_r, ng_r_k, Ap_tl_r, Ap_tr_r, Blr, hs, Blk, h8, he10, he15a, he18a, h19, Otl, Otr⟩ := hcut
          go_upto_region 26 with fail
          have BI20a : i < n := by omega
          have BI20b : ((i : Int) : Int) < (n : Int) := by omega
          obtain ⟨ge21, ae21, ne21, ce21, Ae21, Ne21, De21, Bj, Bk, Bl, he21, le21⟩ := ownR_at (OwnG.mono RC.kept FVlf.out hs) (show i < (mapL (rgW L t).1 n).length by (simp only [List.length_set, mapL_len]; omega))
          rw [mapL_nth (show i < n by omega)] at he21
          obtain ⟨ge25, ae25, ne25, ce25, Ae25, Ne25, De25, Bg, Bh, Bi, he25, le25⟩ := ownR_at (OwnG.mono RC.kept FVrt.out hs) (show i < (mapL (rgW L t).2 n).length by (simp only [List.length_set, mapL_len]; omega))
          rw [mapL_nth (show i < n by omega)] at he25
          refine U_region (S := fun w' => w'.cell? ⟨gr, 0, none⟩ = some (.bool sh19) ∧ w'.cell? ⟨gr, 1, none⟩ = some (.slice ah19 nh19 ch19) ∧ w'.cell? ⟨gr, 2, none⟩ = some (.slice Ah19 Nh19 Ch19) ∧ w'.cell? ⟨glf, i * 3, none⟩ = some (.bool ge21) ∧ w'.cell? ⟨glf, i * 3 + 1, none⟩ = some (.slice ae21 ne21 ce21) ∧ w'.cell? ⟨glf, i * 3 + 2, none⟩ = some (.slice Ae21 Ne21 De21) ∧ w'.cell? ⟨grt, i * 3, none⟩ = some (.bool ge25) ∧ w'.cell? ⟨grt, i * 3 + 1, none⟩ = some (.slice ae25 ne25 ce25) ∧ w'.cell? ⟨grt, i * 3 + 2, none⟩ = some (.slice Ae25 Ne25 De25)) (by kernel_rfl) 18 ?_
          refine AnyU.abs ?_
          intro w84 hW
          have hb : Below wc.heap.size wc w84 := by rw [hW]; exact bDrew _
          replace hs := bStep hs hb
          replace Blk := Blk.mono hb
          replace Blr := Blr.mono hb
          replace h8 := h8.mono hb
          replace he10 := he10.mono hb
          replace he15a := he15a.mono hb
          replace he18a := he18a.mono hb
          replace h19 := h19.mono hb
          replace he21 := he21.mono hb
          replace he25 := he25.mono hb
          replace Otl := Otl.mono RC.kept hb
          replace Otr := Otr.mono RC.kept hb
          replace Bj := cellK Bj hb
          replace Bk := cellK Bk hb
          replace Bl := cellK Bl hb
          replace Bg := cellK Bg hb
          replace Bh := cellK Bh hb
          replace Bi := cellK Bi hb
          clear hb hW
          have Ba := Blr.a0
          have Bb := Blr.a1
          have Bc := Blr.a2
          have hH := (show w84.cell? ⟨gr, 0, none⟩ = some (.bool sh19) ∧ w84.cell? ⟨gr, 1, none⟩ = some (.slice ah19 nh19 ch19) ∧ w84.cell? ⟨gr, 2, none⟩ = some (.slice Ah19 Nh19 Ch19) ∧ w84.cell? ⟨glf, i * 3, none⟩ = some (.bool ge21) ∧ w84.cell? ⟨glf, i * 3 + 1, none⟩ = some (.slice ae21 ne21 ce21) ∧ w84.cell? ⟨glf, i * 3 + 2, none⟩ = some (.slice Ae21 Ne21 De21) ∧ w84.cell? ⟨grt, i * 3, none⟩ = some (.bool ge25) ∧ w84.cell? ⟨grt, i * 3 + 1, none⟩ = some (.slice ae25 ne25 ce25) ∧ w84.cell? ⟨grt, i * 3 + 2, none⟩ = some (.slice Ae25 Ne25 De25) from ⟨Ba, Bb, Bc, Bj, Bk, Bl, Bg, Bh, Bi⟩)
          refine U_tt 0 ?_ ?_ hH ?_
          rotate_left
          ·(intro w hSw; (try dsimp only at hSw); go_simp; try with_reducible rfl)
          try simp only [LY]
          refine U_tt 1 ?_ ?_ hH ?_
          rotate_left
          ·(intro w hSw; (try dsimp only at hSw); go_simp; try with_reducible rfl)
          try simp only [LY]
          refine U_tt 2 ?_ ?_ hH ?_
          rotate_left
          ·(intro w hSw; (try dsimp only at hSw); go_simp; try with_reducible rfl)
          try simp only [LY]
          refine U_tt 3 ?_ ?_ hH ?_
          rotate_left
          ·(intro w hSw; (try dsimp only at hSw); go_simp; try with_reducible rfl)
          try simp only [LY]
          refine U_tt 4 ?_ ?_ hH ?_
          rotate_left
          ·(intro w hSw; (try dsimp only at hSw); go_simp; try with_reducible rfl)
          try simp only [LY]
          refine U_tt 5 ?_ ?_ hH ?_
          rotate_left
          ·(intro w hSw; (try dsimp only at hSw); go_simp; try with_reducible rfl)
          try simp only [LY]
          refine U_tt 8 ?_ ?_ hH ?_
          rotate_left
          ·(intro w hSw; (try dsimp only at hSw); go_simp; try with_reducible rfl)
          try simp only [LY]
          refine U_tt 10 ?_ ?_ hH ?_
          rotate_left
          ·(intro w hSw; (try dsimp only at hSw); go_simp; try with_reducible rfl)
          try simp only [LY]
          refine U_tt 11 ?_ ?_ hH ?_
          rotate_left
          ·(intro w hSw; (try dsimp only at hSw); go_simp; try with_reducible rfl)
          try simp only [LY]
          refine U_tt 12 ?_ ?_ hH ?_
          rotate_left
          ·(intro w hSw; (try dsimp only at hSw); go_simp; try with_reducible rfl)
          try simp only [LY]
          refine U_tt 13 ?_ ?_ hH ?_
          rotate_left
          ·(intro w hSw; (try dsimp only at hSw); go_simp; try with_reducible rfl)
          try simp only [LY]
          clear hH
          refine U_one (i := 6) (by kernel_rfl) rfl (fun K hK => ?_)
          go_simp
          (with_reducible refine (rMul h19 he21 (SzQ.fit ((HRS.out i (by omega)).1)) (SzQ.fit ((HW.out t (by omega) i).1))).mono ?_)
          rintro e w85 ⟨_, rfl, h22, hb⟩
          obtain ⟨sh22, ah22, nh22, ch22, Ah22, Nh22, Ch22, rfl⟩ := h22.shape
          replace hs := bStep hs hb
          replace Blk := Blk.mono hb
          replace Blr := Blr.mono hb
          replace h8 := h8.mono hb
          replace he10 := he10.mono hb
          replace he15a := he15a.mono hb
          replace he18a := he18a.mono hb
          replace h19 := h19.mono hb
          replace he21 := he21.mono hb
          replace he25 := he25.mono hb
          replace Otl := Otl.mono RC.kept hb
          replace Otr := Otr.mono RC.kept hb
          replace Ba := cellK Ba hb
          replace Bb := cellK Bb hb
          replace Bc := cellK Bc hb
          replace Bj := cellK Bj hb
          replace Bk := cellK Bk hb
          replace Bl := cellK Bl hb
          replace Bg := cellK Bg hb
          replace Bh := cellK Bh hb
          replace Bi := cellK Bi hb
          clear hb
          try go_wp2_with fail
          refine hK.out _ _ ⟨Ba, Bb, Bc, Bj, Bk, Bl, Bg, Bh, Bi⟩ (fun hH => ?_)
          clear hK K
          try simp only [LY]
          clear hH
          refine U_one (i := 7) (by kernel_rfl) rfl (fun K hK => ?_)
          go_simp
          (with_reducible refine (r7_one _).mono ?_)
          rintro e w86 ⟨_, rfl, h23, hb⟩
          obtain ⟨sh23, ah23, nh23, ch23, Ah23, Nh23, Ch23, rfl⟩ := h23.shape
          replace hs := bStep hs hb
          replace Blk := Blk.mono hb
          replace Blr := Blr.mono hb
          replace h8 := h8.mono hb
          replace he10 := he10.mono hb
          replace he15a := he15a.mono hb
          replace he18a := he18a.mono hb
          replace h19 := h19.mono hb
          replace he21 := he21.mono hb
          replace he25 := he25.mono hb
          replace h22 := h22.mono hb
          replace Otl := Otl.mono RC.kept hb
          replace Otr := Otr.mono RC.kept hb
          replace Ba := cellK Ba hb
          replace Bb := cellK Bb hb
          replace Bc := cellK Bc hb
          replace Bj := cellK Bj hb
          replace Bk := cellK Bk hb
          replace Bl := cellK Bl hb
          replace Bg := cellK Bg hb
          replace Bh := cellK Bh hb
          replace Bi := cellK Bi hb
          clear hb
          try go_wp2_with fail
          refine hK.out _ _ ⟨Ba, Bb, Bc, Bj, Bk, Bl, Bg, Bh, Bi⟩ (fun hH => ?_)
          clear hK K
          try simp only [LY]
          clear hH
          refine U_one (i := 9) (by kernel_rfl) rfl (fun K hK => ?_)
          go_simp
          (with_reducible refine (rSub h23 h19 (SzQ.fit szQ_one) (SzQ.fit ((HRS.out i (by omega)).1))).mono ?_)
          rintro e w87 ⟨_, rfl, h24, hb⟩
          obtain ⟨sh24, ah24, nh24, ch24, Ah24, Nh24, Ch24, rfl⟩ := h24.shape
          replace hs := bStep hs hb
          replace Blk := Blk.mono hb
          replace Blr := Blr.mono hb
          replace h8 := h8.mono hb
          replace he10 := he10.mono hb
          replace he15a := he15a.mono hb
          replace he18a := he18a.mono hb
          replace h19 := h19.mono hb
          replace he21 := he21.mono hb
          replace he25 := he25.mono hb
          replace h22 := h22.mono hb
          replace h23 := h23.mono hb
          replace Otl := Otl.mono RC.kept hb
          replace Otr := Otr.mono RC.kept hb
          replace Ba := cellK Ba hb
          replace Bb := cellK Bb hb
          replace Bc := cellK Bc hb
          replace Bj := cellK Bj hb
          replace Bk := cellK Bk hb
          replace Bl := cellK Bl hb
          replace Bg := cellK Bg hb
          replace Bh := cellK Bh hb
          replace Bi := cellK Bi hb
          clear hb
          try go_wp2_with fail
          refine hK.out _ _ ⟨Ba, Bb, Bc, Bj, Bk, Bl, Bg, Bh, Bi⟩ (fun hH => ?_)
          clear hK K
          try simp only [LY]
          clear hH
          refine U_one (i := 14) (by kernel_rfl) rfl (fun K hK => ?_)
          go_simp
          (with_reducible refine (rMul h24 he25 (SzQ.fit (SzQ.sub szQ_one ((HRS.out i (by omega)).1))) (SzQ.fit ((HW.out t (by omega) i).2))).mono ?_)
          rintro e w88 ⟨_, rfl, h26, hb⟩
          obtain ⟨sh26, ah26, nh26, ch26, Ah26, Nh26, Ch26, rfl⟩ := h26.shape
          replace hs := bStep hs hb
          replace Blk := Blk.mono hb
          replace Blr := Blr.mono hb
          replace h8 := h8.mono hb
          replace he10 := he10.mono hb
          replace he15a := he15a.mono hb
          replace he18a := he18a.mono hb
          replace h19 := h19.mono hb
          replace he21 := he21.mono hb
          replace he25 := he25.mono hb
          replace h22 := h22.mono hb
          replace h23 := h23.mono hb
          replace h24 := h24.mono hb
          replace Otl := Otl.mono RC.kept hb
          replace Otr := Otr.mono RC.kept hb
          replace Ba := cellK Ba hb
          replace Bb := cellK Bb hb
          replace Bc := cellK Bc hb
          replace Bj := cellK Bj hb
          replace Bk := cellK Bk hb
          replace Bl := cellK Bl hb
          replace Bg := cellK Bg hb
          replace Bh := cellK Bh hb
          replace Bi := cellK Bi hb
          clear hb
          try go_wp2_with fail
          refine hK.out _ _ ⟨Ba, Bb, Bc, Bj, Bk, Bl, Bg, Bh, Bi⟩ (fun hH => ?_)
          clear hK K
          try simp only [LY]
          clear hH
          refine U_one (i := 15) (by kernel_rfl) rfl (fun K hK => ?_)
          go_simp
          (with_reducible refine (rAdd h22 h26 (SzQ.fit (SzQ.mul ((HRS.out i (by omega)).1) ((HW.out t (by omega) i).1))) (SzQ.fit (SzQ.mul (SzQ.sub szQ_one ((HRS.out i (by omega)).1)) ((HW.out t (by omega) i).2)))).mono ?_)
          rintro e w89 ⟨_, rfl, h27, hb⟩
          obtain ⟨sh27, ah27, nh27, ch27, Ah27, Nh27, Ch27, rfl⟩ := h27.shape
          replace hs := bStep hs hb
          replace Blk := Blk.mono hb
          replace Blr := Blr.mono hb
          replace h8 := h8.mono hb
          replace he10 := he10.mono hb
          replace he15a := he15a.mono hb
          replace he18a := he18a.mono hb
          replace h19 := h19.mono hb
          replace he21 := he21.mono hb
          replace he25 := he25.mono hb
          replace h22 := h22.mono hb
          replace h23 := h23.mono hb
          replace h24 := h24.mono hb
          replace h26 := h26.mono hb
          replace Otl := Otl.mono RC.kept hb
          replace Otr := Otr.mono RC.kept hb
          replace Ba := cellK Ba hb
          replace Bb := cellK Bb hb
          replace Bc := cellK Bc hb
          replace Bj := cellK Bj hb
          replace Bk := cellK Bk hb
          replace Bl := cellK Bl hb
          replace Bg := cellK Bg hb
          replace Bh := cellK Bh hb
          replace Bi := cellK Bi hb
          clear hb
          try go_wp2_with fail
          refine hK.out _ _ ⟨Ba, Bb, Bc, Bj, Bk, Bl, Bg, Bh, Bi⟩ (fun hH => ?_)
          clear hK K
          try simp only [LY]
          clear hH
          refine U_one (i := 16) (by kernel_rfl) rfl (fun K hK => ?_)
          go_simp
          generalize hWn : (w89.alloc (.cells #[.bool sh27, .slice ah27 nh27 ch27, .slice Ah27 Nh27 Ch27] 38)) = w90
          have hb : Below w89.heap.size w89 w90 := by rw [← hWn]; exact (Below.refl _ _).alloc (Nat.le_refl _) _
          have C0 : Bx w90 (w89.heap.size) 38 #[.bool sh27, .slice ah27 nh27 ch27, .slice Ah27 Nh27 Ch27] := by rw [← hWn]; exact Bx.new _ _ _
          have nk_ls : w.heap.size ≠ w89.heap.size := by have := Blk.lt; omega
          have nr_ls : gr ≠ w89.heap.size := by have := Blr.lt; omega
          have sz_ls : wt.heap.size ≤ w89.heap.size := hs.size
          replace hs := bStep hs hb
          replace Blk := Blk.mono hb
          replace Blr := Blr.mono hb
          replace h8 := h8.mono hb
          replace he10 := he10.mono hb
          replace he15a := he15a.mono hb
          replace he18a := he18a.mono hb
          replace h19 := h19.mono hb
          replace he21 := he21.mono hb
          replace he25 := he25.mono hb
          replace h22 := h22.mono hb
          replace h23 := h23.mono hb
          replace h24 := h24.mono hb
          replace h26 := h26.mono hb
          replace h27 := h27.mono hb
          replace Otl := Otl.mono RC.kept hb
          replace Otr := Otr.mono RC.kept hb
          replace Ba := cellK Ba hb
          replace Bb := cellK Bb hb
          replace Bc := cellK Bc hb
          replace Bj := cellK Bj hb
          replace Bk := cellK Bk hb
          replace Bl := cellK Bl hb
          replace Bg := cellK Bg hb
          replace Bh := cellK Bh hb
          replace Bi := cellK Bi hb
          clear hb hWn
          refine hK.out _ _ ⟨Ba, Bb, Bc, Bj, Bk, Bl, Bg, Bh, Bi⟩ (fun hH => ?_)
          clear hK K
          try simp only [LY]
          clear hH
          refine U_one (i := 17) (by kernel_rfl) rfl (fun K hK => ?_)
          obtain ⟨css, ho1, ho2, ho3, hown0⟩ := Otl
          simp only [List.getElem_toArray, List.getElem_cons_succ, List.getElem_cons_zero]
          rw [if_pos (by rfl)]
          refine wp_append_lies _ _ _ _ (by rfl) wt.heap.size 38 j0 _ 3 56 Tryz.underlying26 hj hy0 hy1 hy2 (by rfl) (by omega) _ _ css.flatten (by rfl) hown0 ⟨w89.heap.size, 0, none⟩ 1 1 [.bool sh27, .slice ah27 nh27 ch27, .slice Ah27 Nh27 Ch27] (by rfl) (by rfl) C0.news ?_ (by omega) ?_ ?_ ?_ _ rfl ?_
          ·intro u hu; simp only [List.mem_cons, List.mem_nil_iff, or_false] at hu; rcases hu with rfl | rfl | rfl <;> rfl
          ·unfold maxLen; (try simp only [mapL_len, List.length_append, List.length_cons, List.length_nil]); (try simp only [rgBks_n, rgThs_n]); omega
          ·(try simp only [mapL_len, List.length_append, List.length_cons, List.length_nil]); (try simp only [rgBks_n, rgThs_n]); omega
          ·exact hs.size
          intro gtl captl w91 hown1 hgrow hat hlt
          have hk := KeepD.owns hown0 hgrow (by decide)
          have ho := owns_onlyT hown0 hgrow
          replace Bj := hgrow.cell Bj (fun e => by have := (hown0.lt _ e.symm).1; simp only at this; omega)
          replace Bk := hgrow.cell Bk (fun e => by have := (hown0.lt _ e.symm).1; simp only at this; omega)
          replace Bl := hgrow.cell Bl (fun e => by have := (hown0.lt _ e.symm).1; simp only at this; omega)
          replace Bg := hgrow.cell Bg (fun e => by have := (hown0.lt _ e.symm).1; simp only at this; omega)
          replace Bh := hgrow.cell Bh (fun e => by have := (hown0.lt _ e.symm).1; simp only at this; omega)
          replace Bi := hgrow.cell Bi (fun e => by have := (hown0.lt _ e.symm).1; simp only at this; omega)
          replace hs := hs.grown hgrow hs.size (fun k hk => (hown0.lt k hk).1)
          replace Otl := OwnR.push RC.kept ho1 ho2 ho3 (x := (rgR L i * ((rgW L t).1 i)) + ((1 - rgR L i) * ((rgW L t).2 i))) rfl ⟨_, _, _, rfl, h27⟩ hown1 hk
          replace Blk := Blk.grown hgrow (fun e => by have := (hown0.lt _ e.symm).1; omega)
          have Ap_tl_r1 := Ap_tl_r.app hat Blr.lt
          replace Blr := Blr.grown hgrow Ap_tl_r.ne
          replace Ap_tl_r := Ap_tl_r1
          clear Ap_tl_r1
          replace h8 := h8.keep hk
          replace he10 := he10.keep hk
          replace he15a := he15a.keep hk
          replace he18a := he18a.keep hk
          replace h19 := h19.keep hk
          replace he21 := he21.keep hk
          replace he25 := he25.keep hk
          replace h22 := h22.keep hk
          replace h23 := h23.keep hk
          replace h24 := h24.keep hk
          replace h26 := h26.keep hk
          replace h27 := h27.keep hk
          have Aq1 := Aq_tl_tr.app hat Otr (Nat.le_refl _)
          replace Otr := Otr.grown RC.kept hgrow Aq_tl_tr.or hk
          replace Aq_tl_tr := Aq1
          clear Aq1
          replace Ba := Blr.at 0 rfl
          replace Bb := Blr.at 1 rfl
          replace Bc := Blr.at 2 rfl
          clear hk ho ho1 ho2 ho3 hown0 hown1 hgrow C0
          refine hK.out _ _ ⟨Ba, Bb, Bc, Bj, Bk, Bl, Bg, Bh, Bi⟩ (fun hH => ?_)
          clear hK K
          try simp only [LY]
          clear hH
          refine U_last (by kernel_rfl) rfl (by kernel_rfl) (fun K hK => ?_)
          go_simp
          refine hK.out _ _ ?_
          clear hK K
          intro wl hW
          rw [hW]
          clear hW wl
          try simp only [LY]
          clear Ba Bb Bc Bj Bk Bl Bg Bh Bi
          go_upto_region 27 with fail
          have BI30a : i < n := by omega
          have BI30b : ((i : Int) : Int) < (n : Int) := by omega
          obtain ⟨ge31, ae31, ne31, ce31, Ae31, Ne31, De31, Bm, Bn, Bo, he31, le31⟩ := ownR_at (OwnG.mono RC.kept FVlf.out hs) (show i < (mapL (rgW L t).1 n).length by (simp only [List.length_set, mapL_len]; omega))
          rw [mapL_nth (show i < n by omega)] at he31
          obtain ⟨ge33, ae33, ne33, ce33, Ae33, Ne33, De33, Bp, Bq, Br, he33, le33⟩ := ownR_at (OwnG.mono RC.kept FVrt.out hs) (show i < (mapL (rgW L t).2 n).length by (simp only [List.length_set, mapL_len]; omega))
          rw [mapL_nth (show i < n by omega)] at he33
          refine U_region (S := fun w' => w'.cell? ⟨gr, 0, none⟩ = some (.bool sh19) ∧ w'.cell? ⟨gr, 1, none⟩ = some (.slice ah19 nh19 ch19) ∧ w'.cell? ⟨gr, 2, none⟩ = some (.slice Ah19 Nh19 Ch19) ∧ w'.cell? ⟨glf, i * 3, none⟩ = some (.bool ge31) ∧ w'.cell? ⟨glf, i * 3 + 1, none⟩ = some (.slice ae31 ne31 ce31) ∧ w'.cell? ⟨glf, i * 3 + 2, none⟩ = some (.slice Ae31 Ne31 De31) ∧ w'.cell? ⟨grt, i * 3, none⟩ = some (.bool ge33) ∧ w'.cell? ⟨grt, i * 3 + 1, none⟩ = some (.slice ae33 ne33 ce33) ∧ w'.cell? ⟨grt, i * 3 + 2, none⟩ = some (.slice Ae33 Ne33 De33)) (by kernel_rfl) 18 ?_
          refine AnyU.abs ?_
          intro w92 hW
          have hb : Below w91.heap.size w91 w92 := by rw [hW]; exact bDrew _
          replace hs := bStep hs hb
          replace Blk := Blk.mono hb
          replace Blr := Blr.mono hb
          replace h8 := h8.mono hb
          replace he10 := he10.mono hb
          replace he15a := he15a.mono hb
          replace he18a := he18a.mono hb
          replace h19 := h19.mono hb
          replace he21 := he21.mono hb
          replace he25 := he25.mono hb
          replace h22 := h22.mono hb
          replace h23 := h23.mono hb
          replace h24 := h24.mono hb
          replace h26 := h26.mono hb
          replace h27 := h27.mono hb
          replace he31 := he31.mono hb
          replace he33 := he33.mono hb
          replace Otl := Otl.mono RC.kept hb
          replace Otr := Otr.mono RC.kept hb
          replace Bm := cellK Bm hb
          replace Bn := cellK Bn hb
          replace Bo := cellK Bo hb
          replace Bp := cellK Bp hb
          replace Bq := cellK Bq hb
          replace Br := cellK Br hb
          clear hb hW
          have Ba := Blr.a0
          have Bb := Blr.a1
          have Bc := Blr.a2
          have hH := (show w92.cell? ⟨gr, 0, none⟩ = some (.bool sh19) ∧ w92.cell? ⟨gr, 1, none⟩ = some (.slice ah19 nh19 ch19) ∧ w92.cell? ⟨gr, 2, none⟩ = some (.slice Ah19 Nh19 Ch19) ∧ w92.cell? ⟨glf, i * 3, none⟩ = some (.bool ge31) ∧ w92.cell? ⟨glf, i * 3 + 1, none⟩ = some (.slice ae31 ne31 ce31) ∧ w92.cell? ⟨glf, i * 3 + 2, none⟩ = some (.slice Ae31 Ne31 De31) ∧ w92.cell? ⟨grt, i * 3, none⟩ = some (.bool ge33) ∧ w92.cell? ⟨grt, i * 3 + 1, none⟩ = some (.slice ae33 ne33 ce33) ∧ w92.cell? ⟨grt, i * 3 + 2, none⟩ = some (.slice Ae33 Ne33 De33) from ⟨Ba, Bb, Bc, Bm, Bn, Bo, Bp, Bq, Br⟩)
          refine U_tt 0 ?_ ?_ hH ?_
          rotate_left
          ·(intro w hSw; (try dsimp only at hSw); go_simp; try with_reducible rfl)
          try simp only [LY]
          refine U_tt 2 ?_ ?_ hH ?_
          rotate_left
          ·(intro w hSw; (try dsimp only at hSw); go_simp; try with_reducible rfl)
          try simp only [LY]
          refine U_tt 4 ?_ ?_ hH ?_
          rotate_left
          ·(intro w hSw; (try dsimp only at hSw); go_simp; try with_reducible rfl)
          try simp only [LY]
          refine U_tt 5 ?_ ?_ hH ?_
          rotate_left
          ·(intro w hSw; (try dsimp only at hSw); go_simp; try with_reducible rfl)
          try simp only [LY]
          refine U_tt 6 ?_ ?_ hH ?_
          rotate_left
          ·(intro w hSw; (try dsimp only at hSw); go_simp; try with_reducible rfl)
          try simp only [LY]
          refine U_tt 7 ?_ ?_ hH ?_
          rotate_left
          ·(intro w hSw; (try dsimp only at hSw); go_simp; try with_reducible rfl)
          try simp only [LY]
          refine U_tt 9 ?_ ?_ hH ?_
          rotate_left
          ·(intro w hSw; (try dsimp only at hSw); go_simp; try with_reducible rfl)
          try simp only [LY]
          refine U_tt 10 ?_ ?_ hH ?_
          rotate_left
          ·(intro w hSw; (try dsimp only at hSw); go_simp; try with_reducible rfl)
          try simp only [LY]
          refine U_tt 11 ?_ ?_ hH ?_
          rotate_left
          ·(intro w hSw; (try dsimp only at hSw); go_simp; try with_reducible rfl)
          try simp only [LY]
          refine U_tt 12 ?_ ?_ hH ?_
          rotate_left
          ·(intro w hSw; (try dsimp only at hSw); go_simp; try with_reducible rfl)
          try simp only [LY]
          refine U_tt 13 ?_ ?_ hH ?_
          rotate_left
          ·(intro w hSw; (try dsimp only at hSw); go_simp; try with_reducible rfl)
          try simp only [LY]
          clear hH
          refine U_one (i := 1) (by kernel_rfl) rfl (fun K hK => ?_)
          go_simp
          (with_reducible refine (r7_one _).mono ?_)
          rintro e w93 ⟨_, rfl, h28, hb⟩
          obtain ⟨sh28, ah28, nh28, ch28, Ah28, Nh28, Ch28, rfl⟩ := h28.shape
          replace hs := bStep hs hb
          replace Blk := Blk.mono hb
          replace Blr := Blr.mono hb
          replace h8 := h8.mono hb
          replace he10 := he10.mono hb
          replace he15a := he15a.mono hb
          replace he18a := he18a.mono hb
          replace h19 := h19.mono hb
          replace he21 := he21.mono hb
          replace he25 := he25.mono hb
          replace h22 := h22.mono hb
          replace h23 := h23.mono hb
          replace h24 := h24.mono hb
          replace h26 := h26.mono hb
          replace h27 := h27.mono hb
          replace he31 := he31.mono hb
          replace he33 := he33.mono hb
          replace Otl := Otl.mono RC.kept hb
          replace Otr := Otr.mono RC.kept hb
          replace Ba := cellK Ba hb
          replace Bb := cellK Bb hb
          replace Bc := cellK Bc hb
          replace Bm := cellK Bm hb
          replace Bn := cellK Bn hb
          replace Bo := cellK Bo hb
          replace Bp := cellK Bp hb
          replace Bq := cellK Bq hb
          replace Br := cellK Br hb
          clear hb
          try go_wp2_with fail
          refine hK.out _ _ ⟨Ba, Bb, Bc, Bm, Bn, Bo, Bp, Bq, Br⟩ (fun hH => ?_)
          clear hK K
          try simp only [LY]
          clear hH
          refine U_one (i := 3) (by kernel_rfl) rfl (fun K hK => ?_)
          go_simp
          (with_reducible refine (rAdd h28 h19 (SzQ.fit szQ_one) (SzQ.fit ((HRS.out i (by omega)).1))).mono ?_)
          rintro e w94 ⟨_, rfl, h29, hb⟩
          obtain ⟨sh29, ah29, nh29, ch29, Ah29, Nh29, Ch29, rfl⟩ := h29.shape
          replace hs := bStep hs hb
          replace Blk := Blk.mono hb
          replace Blr := Blr.mono hb
          replace h8 := h8.mono hb
          replace he10 := he10.mono hb
          replace he15a := he15a.mono hb
          replace he18a := he18a.mono hb
          replace h19 := h19.mono hb
          replace he21 := he21.mono hb
          replace he25 := he25.mono hb
          replace h22 := h22.mono hb
          replace h23 := h23.mono hb
          replace h24 := h24.mono hb
          replace h26 := h26.mono hb
          replace h27 := h27.mono hb
          replace he31 := he31.mono hb
          replace he33 := he33.mono hb
          replace h28 := h28.mono hb
          replace Otl := Otl.mono RC.kept hb
          replace Otr := Otr.mono RC.kept hb
          replace Ba := cellK Ba hb
          replace Bb := cellK Bb hb
          replace Bc := cellK Bc hb
          replace Bm := cellK Bm hb
          replace Bn := cellK Bn hb
          replace Bo := cellK Bo hb
          replace Bp := cellK Bp hb
          replace Bq := cellK Bq hb
          replace Br := cellK Br hb
          clear hb
          try go_wp2_with fail
          refine hK.out _ _ ⟨Ba, Bb, Bc, Bm, Bn, Bo, Bp, Bq, Br⟩ (fun hH => ?_)
          clear hK K
          try simp only [LY]
          clear hH
          refine U_one (i := 8) (by kernel_rfl) rfl (fun K hK => ?_)
          go_simp
          (with_reducible refine (rMul h29 he31 (SzQ.fit (SzQ.add szQ_one ((HRS.out i (by omega)).1))) (SzQ.fit ((HW.out t (by omega) i).1))).mono ?_)
          rintro e w95 ⟨_, rfl, h32, hb⟩
          obtain ⟨sh32, ah32, nh32, ch32, Ah32, Nh32, Ch32, rfl⟩ := h32.shape
          replace hs := bStep hs hb
          replace Blk := Blk.mono hb
          replace Blr := Blr.mono hb
          replace h8 := h8.mono hb
          replace he10 := he10.mono hb
          replace he15a := he15a.mono hb
          replace he18a := he18a.mono hb
          replace h19 := h19.mono hb
          replace he21 := he21.mono hb
          replace he25 := he25.mono hb
          replace h22 := h22.mono hb
          replace h23 := h23.mono hb
          replace h24 := h24.mono hb
          replace h26 := h26.mono hb
          replace h27 := h27.mono hb
          replace he31 := he31.mono hb
          replace he33 := he33.mono hb
          replace h28 := h28.mono hb
          replace h29 := h29.mono hb
          replace Otl := Otl.mono RC.kept hb
          replace Otr := Otr.mono RC.kept hb
          replace Ba := cellK Ba hb
          replace Bb := cellK Bb hb
          replace Bc := cellK Bc hb
          replace Bm := cellK Bm hb
          replace Bn := cellK Bn hb
          replace Bo := cellK Bo hb
          replace Bp := cellK Bp hb
          replace Bq := cellK Bq hb
          replace Br := cellK Br hb
          clear hb
          try go_wp2_with fail
          refine hK.out _ _ ⟨Ba, Bb, Bc, Bm, Bn, Bo, Bp, Bq, Br⟩ (fun hH => ?_)
          clear hK K
          try simp only [LY]
          clear hH
          refine U_one (i := 14) (by kernel_rfl) rfl (fun K hK => ?_)
          go_simp
          (with_reducible refine (rMul h19 he33 (SzQ.fit ((HRS.out i (by omega)).1)) (SzQ.fit ((HW.out t (by omega) i).2))).mono ?_)
          rintro e w96 ⟨_, rfl, h34, hb⟩
          obtain ⟨sh34, ah34, nh34, ch34, Ah34, Nh34, Ch34, rfl⟩ := h34.shape
          replace hs := bStep hs hb
          replace Blk := Blk.mono hb
          replace Blr := Blr.mono hb
          replace h8 := h8.mono hb
          replace he10 := he10.mono hb
          replace he15a := he15a.mono hb
          replace he18a := he18a.mono hb
          replace h19 := h19.mono hb
          replace he21 := he21.mono hb
          replace he25 := he25.mono hb
          replace h22 := h22.mono hb
          replace h23 := h23.mono hb
          replace h24 := h24.mono hb
          replace h26 := h26.mono hb
          replace h27 := h27.mono hb
          replace he31 := he31.mono hb
          replace he33 := he33.mono hb
          replace h28 := h28.mono hb
          replace h29 := h29.mono hb
          replace h32 := h32.mono hb
          replace Otl := Otl.mono RC.kept hb
          replace Otr := Otr.mono RC.kept hb
          replace Ba := cellK Ba hb
          replace Bb := cellK Bb hb
          replace Bc := cellK Bc hb
          replace Bm := cellK Bm hb
          replace Bn := cellK Bn hb
          replace Bo := cellK Bo hb
          replace Bp := cellK Bp hb
          replace Bq := cellK Bq hb
          replace Br := cellK Br hb
          clear hb
          try go_wp2_with fail
          refine hK.out _ _ ⟨Ba, Bb, Bc, Bm, Bn, Bo, Bp, Bq, Br⟩ (fun hH => ?_)
          clear hK K
          try simp only [LY]
          clear hH
          refine U_one (i := 15) (by kernel_rfl) rfl (fun K hK => ?_)
          go_simp
          (with_reducible refine (rSub h32 h34 (SzQ.fit (SzQ.mul (SzQ.add szQ_one ((HRS.out i (by omega)).1)) ((HW.out t (by omega) i).1))) (SzQ.fit (SzQ.mul ((HRS.out i (by omega)).1) ((HW.out t (by omega) i).2)))).mono ?_)
          rintro e w97 ⟨_, rfl, h35, hb⟩
          obtain ⟨sh35, ah35, nh35, ch35, Ah35, Nh35, Ch35, rfl⟩ := h35.shape
          replace hs := bStep hs hb
          replace Blk := Blk.mono hb
          replace Blr := Blr.mono hb
          replace h8 := h8.mono hb
          replace he10 := he10.mono hb
          replace he15a := he15a.mono hb
          replace he18a := he18a.mono hb
          replace h19 := h19.mono hb
          replace he21 := he21.mono hb
          replace he25 := he25.mono hb
          replace h22 := h22.mono hb
          replace h23 := h23.mono hb
          replace h24 := h24.mono hb
          replace h26 := h26.mono hb
          replace h27 := h27.mono hb
          replace he31 := he31.mono hb
          replace he33 := he33.mono hb
          replace h28 := h28.mono hb
          replace h29 := h29.mono hb
          replace h32 := h32.mono hb
          replace h34 := h34.mono hb
          replace Otl := Otl.mono RC.kept hb
          replace Otr := Otr.mono RC.kept hb
          replace Ba := cellK Ba hb
          replace Bb := cellK Bb hb
          replace Bc := cellK Bc hb
          replace Bm := cellK Bm hb
          replace Bn := cellK Bn hb
          replace Bo := cellK Bo hb
          replace Bp := cellK Bp hb
          replace Bq := cellK Bq hb
          replace Br := cellK Br hb
          clear hb
          try go_wp2_with fail
          refine hK.out _ _ ⟨Ba, Bb, Bc, Bm, Bn, Bo, Bp, Bq, Br⟩ (fun hH => ?_)
          clear hK K
          try simp only [LY]
          clear hH
          refine U_one (i := 16) (by kernel_rfl) rfl (fun K hK => ?_)
          go_simp
          generalize hWn : (w97.alloc (.cells #[.bool sh35, .slice ah35 nh35 ch35, .slice Ah35 Nh35 Ch35] 38)) = w98
          have hb : Below w97.heap.size w97 w98 := by rw [← hWn]; exact (Below.refl _ _).alloc (Nat.le_refl _) _
          have Bs : Bx w98 (w97.heap.size) 38 #[.bool sh35, .slice ah35 nh35 ch35, .slice Ah35 Nh35 Ch35] := by rw [← hWn]; exact Bx.new _ _ _
          have nk_ls0 : w.heap.size ≠ w97.heap.size := by have := Blk.lt; omega
          have nr_ls0 : gr ≠ w97.heap.size := by have := Blr.lt; omega
          have sz_ls0 : wt.heap.size ≤ w97.heap.size := hs.size
          replace hs := bStep hs hb
          replace Blk := Blk.mono hb
          replace Blr := Blr.mono hb
          replace h8 := h8.mono hb
          replace he10 := he10.mono hb
          replace he15a := he15a.mono hb
          replace he18a := he18a.mono hb
          replace h19 := h19.mono hb
          replace he21 := he21.mono hb
          replace he25 := he25.mono hb
          replace h22 := h22.mono hb
          replace h23 := h23.mono hb
          replace h24 := h24.mono hb
          replace h26 := h26.mono hb
          replace h27 := h27.mono hb
          replace he31 := he31.mono hb
          replace he33 := he33.mono hb
          replace h28 := h28.mono hb
          replace h29 := h29.mono hb
          replace h32 := h32.mono hb
          replace h34 := h34.mono hb
          replace h35 := h35.mono hb
          replace Otl := Otl.mono RC.kept hb
          replace Otr := Otr.mono RC.kept hb
          replace Ba := cellK Ba hb
          replace Bb := cellK Bb hb
          replace Bc := cellK Bc hb
          replace Bm := cellK Bm hb
          replace Bn := cellK Bn hb
          replace Bo := cellK Bo hb
          replace Bp := cellK Bp hb
          replace Bq := cellK Bq hb
          replace Br := cellK Br hb
          clear hb hWn
          refine hK.out _ _ ⟨Ba, Bb, Bc, Bm, Bn, Bo, Bp, Bq, Br⟩ (fun hH => ?_)
          clear hK K
          try simp only [LY]
          clear hH
          refine U_one (i := 17) (by kernel_rfl) rfl (fun K hK => ?_)
          obtain ⟨css, ho1, ho2, ho3, hown0⟩ := Otr
          simp only [List.getElem_toArray, List.getElem_cons_succ, List.getElem_cons_zero]
          rw [if_pos (by rfl)]
          refine wp_append_lies _ _ _ _ (by rfl) wt.heap.size 38 j0 _ 3 56 Tryz.underlying26 hj hy0 hy1 hy2 (by rfl) (by omega) _ _ css.flatten (by rfl) hown0 ⟨w97.heap.size, 0, none⟩ 1 1 [.bool sh35, .slice ah35 nh35 ch35, .slice Ah35 Nh35 Ch35] (by rfl) (by rfl) Bs.news ?_ (by omega) ?_ ?_ ?_ _ rfl ?_
          ·intro u hu; simp only [List.mem_cons, List.mem_nil_iff, or_false] at hu; rcases hu with rfl | rfl | rfl <;> rfl
          ·unfold maxLen; (try simp only [mapL_len, List.length_append, List.length_cons, List.length_nil]); (try simp only [rgBks_n, rgThs_n]); omega
          ·(try simp only [mapL_len, List.length_append, List.length_cons, List.length_nil]); (try simp only [rgBks_n, rgThs_n]); omega
          ·exact hs.size
          intro gtr captr w99 hown1 hgrow hat hlt
          have hk := KeepD.owns hown0 hgrow (by decide)
          have ho := owns_onlyT hown0 hgrow
          replace Bm := hgrow.cell Bm (fun e => by have := (hown0.lt _ e.symm).1; simp only at this; omega)
          replace Bn := hgrow.cell Bn (fun e => by have := (hown0.lt _ e.symm).1; simp only at this; omega)
          replace Bo := hgrow.cell Bo (fun e => by have := (hown0.lt _ e.symm).1; simp only at this; omega)
          replace Bp := hgrow.cell Bp (fun e => by have := (hown0.lt _ e.symm).1; simp only at this; omega)
          replace Bq := hgrow.cell Bq (fun e => by have := (hown0.lt _ e.symm).1; simp only at this; omega)
          replace Br := hgrow.cell Br (fun e => by have := (hown0.lt _ e.symm).1; simp only at this; omega)
          replace hs := hs.grown hgrow hs.size (fun k hk => (hown0.lt k hk).1)
          replace Otr := OwnR.push RC.kept ho1 ho2 ho3 (x := ((1 + rgR L i) * ((rgW L t).1 i)) - (rgR L i * ((rgW L t).2 i))) rfl ⟨_, _, _, rfl, h35⟩ hown1 hk
          replace Blk := Blk.grown hgrow (fun e => by have := (hown0.lt _ e.symm).1; omega)
          have Ap_tr_r1 := Ap_tr_r.app hat Blr.lt
          replace Blr := Blr.grown hgrow Ap_tr_r.ne
          replace Ap_tr_r := Ap_tr_r1
          clear Ap_tr_r1
          replace h8 := h8.keep hk
          replace he10 := he10.keep hk
          replace he15a := he15a.keep hk
          replace he18a := he18a.keep hk
          replace h19 := h19.keep hk
          replace he21 := he21.keep hk
          replace he25 := he25.keep hk
          replace h22 := h22.keep hk
          replace h23 := h23.keep hk
          replace h24 := h24.keep hk
          replace h26 := h26.keep hk
          replace h27 := h27.keep hk
          replace he31 := he31.keep hk
          replace he33 := he33.keep hk
          replace h28 := h28.keep hk
          replace h29 := h29.keep hk
          replace h32 := h32.keep hk
          replace h34 := h34.keep hk
          replace h35 := h35.keep hk
          have Aq1 := (Aq_tl_tr.symm.app hat Otl (Nat.le_refl _)).symm
          replace Otl := Otl.grown RC.kept hgrow Aq_tl_tr.symm.or hk
          replace Aq_tl_tr := Aq1
          clear Aq1
          replace Ba := Blr.at 0 rfl
          replace Bb := Blr.at 1 rfl
          replace Bc := Blr.at 2 rfl
          clear hk ho ho1 ho2 ho3 hown0 hown1 hgrow Bs
          refine hK.out _ _ ⟨Ba, Bb, Bc, Bm, Bn, Bo, Bp, Bq, Br⟩ (fun hH => ?_)
          clear hK K
          try simp only [LY]
          clear hH
          refine U_last (by kernel_rfl) rfl (by kernel_rfl) (fun K hK => ?_)
          go_simp
          refine hK.out _ _ ?_
          clear hK K
          intro wl hW
          rw [hW]
          clear hW wl
          try simp only [LY]
          clear Ba Bb Bc Bm Bn Bo Bp Bq Br
          go_wp2
          go_roundw
          case rel => exact ⟨i + 1, by omega, by go_num, hs, Blk, h8, he10, (by rw [← mapL_succ rfl]; exact Otl), (by rw [← mapL_succ rfl]; exact Otr), Aq_tl_tr⟩
          all_goals first | (simp [intOf]; done) | (simp [intOf]; omega)
        ·have q13d : ((i : Int) < (n : Int)) = False := eq_false (by omega)
         obtain rfl : n = i := by omega
         obtain ⟨gtl, ctl, etl, lowtl, -, -⟩ := Otl.openG (by simp only [mapL_len]; omega)
         simp only [mapL_len] at etl
         subst etl
         have Vtl : OwnG wt.heap.size 38 3 RC ctl wi (gtl) (mapL (tlQ L (rgW L t)) n) := by unfold OwnG; rw [mapL_len]; exact Otl
         clear Otl
         obtain ⟨gtr, ctr, etr, lowtr, -, -⟩ := Otr.openG (by simp only [mapL_len]; omega)
         simp only [mapL_len] at etr
         subst etr
         have Vtr : OwnG wt.heap.size 38 3 RC ctr wi (gtr) (mapL (trQ L (rgW L t)) n) := by unfold OwnG; rw [mapL_len]; exact Otr
         clear Otr
         have ntt : gtl ≠ gtr := fun e => Aq_tl_tr gtl rfl (congrArg some e.symm)
         clear Aq_tl_tr
         have Aq_bk_tl := FObk.out.ap lowtl
         have Aq_bk_tr := FObk.out.ap lowtr
         have Aq_th_tl := FOth.out.ap lowtl
         have Aq_th_tr := FOth.out.ap lowtr
         have Obk := FObk.out.mono RC.kept hs
         have Oth := FOth.out.mono RC.kept hs
         have Vlf := OwnG.mono RC.kept FVlf.out hs
         have Vrt := OwnG.mono RC.kept FVrt.out hs
         replace hs := bStep HB1_12.out hs
         go_upto_region 28 with fail
         go_cut [13, 14] (fun k13 k14 wz => Below w1.heap.size w1 wz ∧ Bx wz (w.heap.size) 38 #[.bool false, .slice none 0 0, .slice none 0 0] ∧ RV wz (.agg #[.bool sh8, .slice ah8 nh8 ch8, .slice Ah8 Nh8 Ch8]) (1) ∧ RV wz (.agg #[.bool ge10, .slice ae10 ne10 ce10, .slice Ae10 Ne10 De10]) (nthQ (mapL (fun _ => 0) n) 0) ∧ OwnG wt.heap.size 38 3 RC ctl wz (gtl) (mapL (tlQ L (rgW L t)) n) ∧ OwnG wt.heap.size 38 3 RC ctr wz (gtr) (mapL (trQ L (rgW L t)) n) ∧ OwnG w1.heap.size 38 3 RC clf wz (glf) (mapL (rgW L t).1 n) ∧ OwnG w1.heap.size 38 3 RC crt wz (grt) (mapL (rgW L t).2 n) ∧ OwnR w1.heap.size 38 3 RC wz k13 (rgBks L (t + 1)) ∧ OwnR w1.heap.size 38 3 RC wz k14 (rgThs L (t + 1)) ∧ Ap2 k13.ownBlock k14.ownBlock ∧ Ap k13.ownBlock glf ∧ Ap k13.ownBlock grt ∧ Ap k14.ownBlock glf ∧ Ap k14.ownBlock grt)
         case first =>
          go_upto_region 28 with fail
          obtain ⟨ge14, ae14, ne14, ce14, Ae14, Ne14, De14, B4, B5, B6, he14, le14⟩ := ownR_at Vtl (show 0 < (mapL (tlQ L (rgW L t)) n).length by (simp only [List.length_set, mapL_len]; omega))
          rw [mapL_nth (show 0 < n by omega)] at he14
          simp only [Nat.zero_mul, Nat.zero_add] at B4 B5 B6
          have SW15a := IntWalk.i64_in ((n : Int) - 1) (by omega)
          have SW15b : (0 : Int) ≤ (n : Int) - 1 := by omega
          have SW15c : ((n : Int) - 1).toNat = (n - 1) := by omega
          have SW15d : (n : Int) - 1 < (n : Int) := by omega
          have SW15e : (1 : Int) ≤ (n : Int) := by omega
          have SW15f : (n : Int) < (n : Int) + 1 := by omega
          have BI16a : (n - 1) < n := by omega
          have BI16b : ((n : Int) - 1 : Int) < (n : Int) := by omega
          obtain ⟨ge17, ae17, ne17, ce17, Ae17, Ne17, De17, B7, B8, B9, he17, le17⟩ := ownR_at Vtr (show (n - 1) < (mapL (trQ L (rgW L t)) n).length by (simp only [List.length_set, mapL_len]; omega))
          rw [mapL_nth (show (n - 1) < n by omega)] at he17
          refine U_region (S := fun w' => w'.cell? ⟨gtl, 0, none⟩ = some (.bool ge14) ∧ w'.cell? ⟨gtl, 1, none⟩ = some (.slice ae14 ne14 ce14) ∧ w'.cell? ⟨gtl, 2, none⟩ = some (.slice Ae14 Ne14 De14) ∧ w'.cell? ⟨gtr, (n - 1) * 3, none⟩ = some (.bool ge17) ∧ w'.cell? ⟨gtr, (n - 1) * 3 + 1, none⟩ = some (.slice ae17 ne17 ce17) ∧ w'.cell? ⟨gtr, (n - 1) * 3 + 2, none⟩ = some (.slice Ae17 Ne17 De17)) (by kernel_rfl) 15 ?_
          refine AnyU.abs ?_
          intro w84 hW
          have hb : Below wi.heap.size wi w84 := by rw [hW]; exact bDrew _
          replace hs := bStep hs hb
          replace Blk := Blk.mono hb
          replace h8 := h8.mono hb
          replace he10 := he10.mono hb
          replace he14 := he14.mono hb
          replace he17 := he17.mono hb
          replace Obk := Obk.mono RC.kept hb
          replace Oth := Oth.mono RC.kept hb
          replace Vtl := OwnG.mono RC.kept Vtl hb
          replace Vtr := OwnG.mono RC.kept Vtr hb
          replace Vlf := OwnG.mono RC.kept Vlf hb
          replace Vrt := OwnG.mono RC.kept Vrt hb
          replace B4 := cellK B4 hb
          replace B5 := cellK B5 hb
          replace B6 := cellK B6 hb
          replace B7 := cellK B7 hb
          replace B8 := cellK B8 hb
          replace B9 := cellK B9 hb
          clear hb hW
          have hH := (show w84.cell? ⟨gtl, 0, none⟩ = some (.bool ge14) ∧ w84.cell? ⟨gtl, 1, none⟩ = some (.slice ae14 ne14 ce14) ∧ w84.cell? ⟨gtl, 2, none⟩ = some (.slice Ae14 Ne14 De14) ∧ w84.cell? ⟨gtr, (n - 1) * 3, none⟩ = some (.bool ge17) ∧ w84.cell? ⟨gtr, (n - 1) * 3 + 1, none⟩ = some (.slice ae17 ne17 ce17) ∧ w84.cell? ⟨gtr, (n - 1) * 3 + 2, none⟩ = some (.slice Ae17 Ne17 De17) from ⟨B4, B5, B6, B7, B8, B9⟩)
          refine U_tt 0 ?_ ?_ hH ?_
          rotate_left
          ·(intro w hSw; (try dsimp only at hSw); go_simp; try with_reducible rfl)
          try simp only [LY]
          refine U_tt 1 ?_ ?_ hH ?_
          rotate_left
          ·(intro w hSw; (try dsimp only at hSw); go_simp; try with_reducible rfl)
          try simp only [LY]
          refine U_tt 2 ?_ ?_ hH ?_
          rotate_left
          ·(intro w hSw; (try dsimp only at hSw); go_simp; try with_reducible rfl)
          try simp only [LY]
          refine U_tt 3 ?_ ?_ hH ?_
          rotate_left
          ·(intro w hSw; (try dsimp only at hSw); go_simp; try with_reducible rfl)
          try simp only [LY]
          refine U_tt 6 ?_ ?_ hH ?_
          rotate_left
          ·(intro w hSw; (try dsimp only at hSw); go_simp; try with_reducible rfl)
          try simp only [LY]
          refine U_tt 7 ?_ ?_ hH ?_
          rotate_left
          ·(intro w hSw; (try dsimp only at hSw); go_simp; try with_reducible rfl)
          try simp only [LY]
          refine U_tt 8 ?_ ?_ hH ?_
          rotate_left
          ·(intro w hSw; (try dsimp only at hSw); go_simp; try with_reducible rfl)
          try simp only [LY]
          refine U_tt 9 ?_ ?_ hH ?_
          rotate_left
          ·(intro w hSw; (try dsimp only at hSw); go_simp; try with_reducible rfl)
          try simp only [LY]
          refine U_tt 10 ?_ ?_ hH ?_
          rotate_left
          ·(intro w hSw; (try dsimp only at hSw); go_simp; try with_reducible rfl)
          try simp only [LY]
          refine U_tt 11 ?_ ?_ hH ?_
          rotate_left
          ·(intro w hSw; (try dsimp only at hSw); go_simp; try with_reducible rfl)
          try simp only [LY]
          refine U_two (i := 4) (j := 12) (by kernel_rfl) rfl rfl (fun K hK => ?_) (fun K hK => ?_)
          ·clear hH
           go_simp
           generalize hWn : (w84.alloc (.cells #[.bool ge14, .slice ae14 ne14 ce14, .slice Ae14 Ne14 De14] 38)) = w85
           have hb : Below w84.heap.size w84 w85 := by rw [← hWn]; exact (Below.refl _ _).alloc (Nat.le_refl _) _
           have C0 : Bx w85 (w84.heap.size) 38 #[.bool ge14, .slice ae14 ne14 ce14, .slice Ae14 Ne14 De14] := by rw [← hWn]; exact Bx.new _ _ _
           have nk_ls : w.heap.size ≠ w84.heap.size := by have := Blk.lt; omega
           have sz_ls : w1.heap.size ≤ w84.heap.size := hs.size
           have Ap_bk_ls := Obk.ap (g := w84.heap.size) (Nat.le_refl _)
           have Ap_th_ls := Oth.ap (g := w84.heap.size) (Nat.le_refl _)
           replace hs := bStep hs hb
           replace Blk := Blk.mono hb
           replace h8 := h8.mono hb
           replace he10 := he10.mono hb
           replace he14 := he14.mono hb
           replace he17 := he17.mono hb
           replace Obk := Obk.mono RC.kept hb
           replace Oth := Oth.mono RC.kept hb
           replace Vtl := OwnG.mono RC.kept Vtl hb
           replace Vtr := OwnG.mono RC.kept Vtr hb
           replace Vlf := OwnG.mono RC.kept Vlf hb
           replace Vrt := OwnG.mono RC.kept Vrt hb
           replace B4 := cellK B4 hb
           replace B5 := cellK B5 hb
           replace B6 := cellK B6 hb
           replace B7 := cellK B7 hb
           replace B8 := cellK B8 hb
           replace B9 := cellK B9 hb
           clear hb hWn
           refine hK.out _ _ ⟨B4, B5, B6, B7, B8, B9⟩ (fun hH => ?_)
           clear hK K
           try simp only [LY]
           refine U_two (i := 5) (j := 12) (by kernel_rfl) rfl rfl (fun K hK => ?_) (fun K hK => ?_)
           ·clear hH
            obtain ⟨css, ho1, ho2, ho3, hown0⟩ := Obk
            simp only [List.getElem_toArray, List.getElem_cons_succ, List.getElem_cons_zero]
            rw [if_pos (by rfl)]
            refine wp_append_lies _ _ _ _ (by rfl) w1.heap.size 38 j0 _ 3 56 Tryz.underlying26 hj hy0 hy1 hy2 (by rfl) (by omega) _ _ css.flatten (by rfl) hown0 ⟨w84.heap.size, 0, none⟩ 1 1 [.bool ge14, .slice ae14 ne14 ce14, .slice Ae14 Ne14 De14] (by rfl) (by rfl) C0.news ?_ (by omega) ?_ ?_ ?_ _ rfl ?_
            ·intro u hu; simp only [List.mem_cons, List.mem_nil_iff, or_false] at hu; rcases hu with rfl | rfl | rfl <;> rfl
            ·unfold maxLen; (try simp only [mapL_len, List.length_append, List.length_cons, List.length_nil]); (try simp only [rgBks_n, rgThs_n]); omega
            ·(try simp only [mapL_len, List.length_append, List.length_cons, List.length_nil]); (try simp only [rgBks_n, rgThs_n]); omega
            ·exact hs.size
            intro gbk capbk w86 hown1 hgrow hat hlt
            have hk := KeepD.owns hown0 hgrow (by decide)
            have ho := owns_onlyT hown0 hgrow
            replace B4 := hgrow.cell B4 Aq_bk_tl.ne
            replace B5 := hgrow.cell B5 Aq_bk_tl.ne
            replace B6 := hgrow.cell B6 Aq_bk_tl.ne
            replace B7 := hgrow.cell B7 Aq_bk_tr.ne
            replace B8 := hgrow.cell B8 Aq_bk_tr.ne
            replace B9 := hgrow.cell B9 Aq_bk_tr.ne
            replace hs := hs.grown hgrow hs.size (fun k hk => (hown0.lt k hk).1)
            replace Obk := OwnR.push RC.kept ho1 ho2 ho3 (x := tlQ L (rgW L t) 0) rfl ⟨_, _, _, rfl, he14⟩ hown1 hk
            replace Blk := Blk.grown hgrow (fun e => by have := (hown0.lt _ e.symm).1; omega)
            replace h8 := h8.keep hk
            replace he10 := he10.keep hk
            replace he14 := he14.keep hk
            replace he17 := he17.keep hk
            have Aq1 := Aq_bk_tl.app hat Vtl.lt
            replace Vtl := OwnG.grown RC.kept Vtl hgrow Aq_bk_tl.ne hk
            replace Aq_bk_tl := Aq1
            clear Aq1
            have Aq1 := Aq_bk_tr.app hat Vtr.lt
            replace Vtr := OwnG.grown RC.kept Vtr hgrow Aq_bk_tr.ne hk
            replace Aq_bk_tr := Aq1
            clear Aq1
            have Aq1 := Aq_bk_lf.app hat Vlf.lt
            replace Vlf := OwnG.grown RC.kept Vlf hgrow Aq_bk_lf.ne hk
            replace Aq_bk_lf := Aq1
            clear Aq1
            have Aq1 := Aq_bk_rt.app hat Vrt.lt
            replace Vrt := OwnG.grown RC.kept Vrt hgrow Aq_bk_rt.ne hk
            replace Aq_bk_rt := Aq1
            clear Aq1
            have Aq1 := Aq_bk_th.app hat Oth (Nat.le_refl _)
            replace Oth := Oth.grown RC.kept hgrow Aq_bk_th.or hk
            replace Aq_bk_th := Aq1
            clear Aq1
            clear hk ho ho1 ho2 ho3 hown0 hown1 hgrow C0
            refine hK.out _ _ ⟨B4, B5, B6, B7, B8, B9⟩ (fun hH => ?_)
            clear hK K
            try simp only [LY]
            clear hH
            refine U_one (i := 12) (by kernel_rfl) rfl (fun K hK => ?_)
            go_simp
            generalize hWn : (w86.alloc (.cells #[.bool ge17, .slice ae17 ne17 ce17, .slice Ae17 Ne17 De17] 38)) = w87
            have hb : Below w86.heap.size w86 w87 := by rw [← hWn]; exact (Below.refl _ _).alloc (Nat.le_refl _) _
            have Bs : Bx w87 (w86.heap.size) 38 #[.bool ge17, .slice ae17 ne17 ce17, .slice Ae17 Ne17 De17] := by rw [← hWn]; exact Bx.new _ _ _
            have nk_ls0 : w.heap.size ≠ w86.heap.size := by have := Blk.lt; omega
            have sz_ls0 : w1.heap.size ≤ w86.heap.size := hs.size
            have Ap_bk_ls0 := Obk.ap (g := w86.heap.size) (Nat.le_refl _)
            have Ap_th_ls0 := Oth.ap (g := w86.heap.size) (Nat.le_refl _)
            replace hs := bStep hs hb
            replace Blk := Blk.mono hb
            replace h8 := h8.mono hb
            replace he10 := he10.mono hb
            replace he14 := he14.mono hb
            replace he17 := he17.mono hb
            replace Obk := Obk.mono RC.kept hb
            replace Oth := Oth.mono RC.kept hb
            replace Vtl := OwnG.mono RC.kept Vtl hb
            replace Vtr := OwnG.mono RC.kept Vtr hb
            replace Vlf := OwnG.mono RC.kept Vlf hb
            replace Vrt := OwnG.mono RC.kept Vrt hb
            replace B4 := cellK B4 hb
            replace B5 := cellK B5 hb
            replace B6 := cellK B6 hb
            replace B7 := cellK B7 hb
            replace B8 := cellK B8 hb
            replace B9 := cellK B9 hb
            clear hb hWn
            refine hK.out _ _ ⟨B4, B5, B6, B7, B8, B9⟩ (fun hH => ?_)
            clear hK K
            try simp only [LY]
            clear hH
            refine U_one (i := 13) (by kernel_rfl) rfl (fun K hK => ?_)
            obtain ⟨css, ho1, ho2, ho3, hown0⟩ := Oth
            simp only [List.getElem_toArray, List.getElem_cons_succ, List.getElem_cons_zero]
            rw [if_pos (by rfl)]
            refine wp_append_lies _ _ _ _ (by rfl) w1.heap.size 38 j0 _ 3 56 Tryz.underlying26 hj hy0 hy1 hy2 (by rfl) (by omega) _ _ css.flatten (by rfl) hown0 ⟨w86.heap.size, 0, none⟩ 1 1 [.bool ge17, .slice ae17 ne17 ce17, .slice Ae17 Ne17 De17] (by rfl) (by rfl) Bs.news ?_ (by omega) ?_ ?_ ?_ _ rfl ?_
            ·intro u hu; simp only [List.mem_cons, List.mem_nil_iff, or_false] at hu; rcases hu with rfl | rfl | rfl <;> rfl
            ·unfold maxLen; (try simp only [mapL_len, List.length_append, List.length_cons, List.length_nil]); (try simp only [rgBks_n, rgThs_n]); omega
            ·(try simp only [mapL_len, List.length_append, List.length_cons, List.length_nil]); (try simp only [rgBks_n, rgThs_n]); omega
            ·exact hs.size
            intro gth capth w88 hown1 hgrow hat hlt
            have hk := KeepD.owns hown0 hgrow (by decide)
            have ho := owns_onlyT hown0 hgrow
            replace B4 := hgrow.cell B4 Aq_th_tl.ne
            replace B5 := hgrow.cell B5 Aq_th_tl.ne
            replace B6 := hgrow.cell B6 Aq_th_tl.ne
            replace B7 := hgrow.cell B7 Aq_th_tr.ne
            replace B8 := hgrow.cell B8 Aq_th_tr.ne
            replace B9 := hgrow.cell B9 Aq_th_tr.ne
            replace hs := hs.grown hgrow hs.size (fun k hk => (hown0.lt k hk).1)
            replace Oth := OwnR.push RC.kept ho1 ho2 ho3 (x := trQ L (rgW L t) (n - 1)) rfl ⟨_, _, _, rfl, he17⟩ hown1 hk
            replace Blk := Blk.grown hgrow (fun e => by have := (hown0.lt _ e.symm).1; omega)
            replace h8 := h8.keep hk
            replace he10 := he10.keep hk
            replace he14 := he14.keep hk
            replace he17 := he17.keep hk
            have Aq1 := Aq_th_tl.app hat Vtl.lt
            replace Vtl := OwnG.grown RC.kept Vtl hgrow Aq_th_tl.ne hk
            replace Aq_th_tl := Aq1
            clear Aq1
            have Aq1 := Aq_th_tr.app hat Vtr.lt
            replace Vtr := OwnG.grown RC.kept Vtr hgrow Aq_th_tr.ne hk
            replace Aq_th_tr := Aq1
            clear Aq1
            have Aq1 := Aq_th_lf.app hat Vlf.lt
            replace Vlf := OwnG.grown RC.kept Vlf hgrow Aq_th_lf.ne hk
            replace Aq_th_lf := Aq1
            clear Aq1
            have Aq1 := Aq_th_rt.app hat Vrt.lt
            replace Vrt := OwnG.grown RC.kept Vrt hgrow Aq_th_rt.ne hk
            replace Aq_th_rt := Aq1
            clear Aq1
            have Aq1 := (Aq_bk_th.symm.app hat Obk (Nat.le_refl _)).symm
            replace Obk := Obk.grown RC.kept hgrow Aq_bk_th.symm.or hk
            replace Aq_bk_th := Aq1
            clear Aq1
            clear hk ho ho1 ho2 ho3 hown0 hown1 hgrow Bs
            refine hK.out _ _ ⟨B4, B5, B6, B7, B8, B9⟩ (fun hH => ?_)
            clear hK K
            try simp only [LY]
            refine U_tt 14 ?_ ?_ hH ?_
            rotate_left
            ·(intro w hSw; (try dsimp only at hSw); go_simp; try with_reducible rfl)
            try simp only [LY]
            clear hH
            refine U_last (by kernel_rfl) rfl (by kernel_rfl) (fun K hK => ?_)
            go_simp
            refine hK.out _ _ ?_
            clear hK K
            intro wl hW
            rw [hW]
            clear hW wl
            try simp only [LY]
            clear B4 B5 B6 B7 B8 B9
            go_wp2_with fail
            go_meet
            exact ⟨hs, Blk, h8, he10, Vtl, Vtr, Vlf, Vrt, (by rw [rgBks_succ]; exact Obk), (by rw [rgThs_succ, show L.length - 2 = n - 1 by omega]; exact Oth), Aq_bk_th, Aq_bk_lf, Aq_bk_rt, Aq_th_lf, Aq_th_rt⟩
           ·clear hH
            go_simp
            generalize hWn : (w85.alloc (.cells #[.bool ge17, .slice ae17 ne17 ce17, .slice Ae17 Ne17 De17] 38)) = w86
            have hb : Below w85.heap.size w85 w86 := by rw [← hWn]; exact (Below.refl _ _).alloc (Nat.le_refl _) _
            have Bs : Bx w86 (w85.heap.size) 38 #[.bool ge17, .slice ae17 ne17 ce17, .slice Ae17 Ne17 De17] := by rw [← hWn]; exact Bx.new _ _ _
            have nk_ls0 : w.heap.size ≠ w85.heap.size := by have := Blk.lt; omega
            have nls_ls0 : w84.heap.size ≠ w85.heap.size := by have := C0.lt; omega
            have sz_ls0 : w1.heap.size ≤ w85.heap.size := hs.size
            have Ap_bk_ls0 := Obk.ap (g := w85.heap.size) (Nat.le_refl _)
            have Ap_th_ls0 := Oth.ap (g := w85.heap.size) (Nat.le_refl _)
            replace hs := bStep hs hb
            replace Blk := Blk.mono hb
            replace C0 := C0.mono hb
            replace h8 := h8.mono hb
            replace he10 := he10.mono hb
            replace he14 := he14.mono hb
            replace he17 := he17.mono hb
            replace Obk := Obk.mono RC.kept hb
            replace Oth := Oth.mono RC.kept hb
            replace Vtl := OwnG.mono RC.kept Vtl hb
            replace Vtr := OwnG.mono RC.kept Vtr hb
            replace Vlf := OwnG.mono RC.kept Vlf hb
            replace Vrt := OwnG.mono RC.kept Vrt hb
            replace B4 := cellK B4 hb
            replace B5 := cellK B5 hb
            replace B6 := cellK B6 hb
            replace B7 := cellK B7 hb
            replace B8 := cellK B8 hb
            replace B9 := cellK B9 hb
            clear hb hWn
            refine hK.out _ _ ⟨B4, B5, B6, B7, B8, B9⟩ (fun hH => ?_)
            clear hK K
            try simp only [LY]
            clear hH
            refine U_one (i := 5) (by kernel_rfl) rfl (fun K hK => ?_)
            obtain ⟨css, ho1, ho2, ho3, hown0⟩ := Obk
            simp only [List.getElem_toArray, List.getElem_cons_succ, List.getElem_cons_zero]
            rw [if_pos (by rfl)]
            refine wp_append_lies _ _ _ _ (by rfl) w1.heap.size 38 j0 _ 3 56 Tryz.underlying26 hj hy0 hy1 hy2 (by rfl) (by omega) _ _ css.flatten (by rfl) hown0 ⟨w84.heap.size, 0, none⟩ 1 1 [.bool ge14, .slice ae14 ne14 ce14, .slice Ae14 Ne14 De14] (by rfl) (by rfl) C0.news ?_ (by omega) ?_ ?_ ?_ _ rfl ?_
            ·intro u hu; simp only [List.mem_cons, List.mem_nil_iff, or_false] at hu; rcases hu with rfl | rfl | rfl <;> rfl
            ·unfold maxLen; (try simp only [mapL_len, List.length_append, List.length_cons, List.length_nil]); (try simp only [rgBks_n, rgThs_n]); omega
            ·(try simp only [mapL_len, List.length_append, List.length_cons, List.length_nil]); (try simp only [rgBks_n, rgThs_n]); omega
            ·exact hs.size
            intro gbk capbk w87 hown1 hgrow hat hlt
            have hk := KeepD.owns hown0 hgrow (by decide)
            have ho := owns_onlyT hown0 hgrow
            replace B4 := hgrow.cell B4 Aq_bk_tl.ne
            replace B5 := hgrow.cell B5 Aq_bk_tl.ne
            replace B6 := hgrow.cell B6 Aq_bk_tl.ne
            replace B7 := hgrow.cell B7 Aq_bk_tr.ne
            replace B8 := hgrow.cell B8 Aq_bk_tr.ne
            replace B9 := hgrow.cell B9 Aq_bk_tr.ne
            replace hs := hs.grown hgrow hs.size (fun k hk => (hown0.lt k hk).1)
            replace Obk := OwnR.push RC.kept ho1 ho2 ho3 (x := tlQ L (rgW L t) 0) rfl ⟨_, _, _, rfl, he14⟩ hown1 hk
            replace Blk := Blk.grown hgrow (fun e => by have := (hown0.lt _ e.symm).1; omega)
            have Ap_bk_ls01 := Ap_bk_ls0.app hat Bs.lt
            replace Bs := Bs.grown hgrow Ap_bk_ls0.ne
            replace Ap_bk_ls0 := Ap_bk_ls01
            clear Ap_bk_ls01
            replace h8 := h8.keep hk
            replace he10 := he10.keep hk
            replace he14 := he14.keep hk
            replace he17 := he17.keep hk
            have Aq1 := Aq_bk_tl.app hat Vtl.lt
            replace Vtl := OwnG.grown RC.kept Vtl hgrow Aq_bk_tl.ne hk
            replace Aq_bk_tl := Aq1
            clear Aq1
            have Aq1 := Aq_bk_tr.app hat Vtr.lt
            replace Vtr := OwnG.grown RC.kept Vtr hgrow Aq_bk_tr.ne hk
            replace Aq_bk_tr := Aq1
            clear Aq1
            have Aq1 := Aq_bk_lf.app hat Vlf.lt
            replace Vlf := OwnG.grown RC.kept Vlf hgrow Aq_bk_lf.ne hk
            replace Aq_bk_lf := Aq1
            clear Aq1
            have Aq1 := Aq_bk_rt.app hat Vrt.lt
            replace Vrt := OwnG.grown RC.kept Vrt hgrow Aq_bk_rt.ne hk
            replace Aq_bk_rt := Aq1
            clear Aq1
            have Aq1 := Aq_bk_th.app hat Oth (Nat.le_refl _)
            replace Oth := Oth.grown RC.kept hgrow Aq_bk_th.or hk
            replace Aq_bk_th := Aq1
            clear Aq1
            clear hk ho ho1 ho2 ho3 hown0 hown1 hgrow C0
            refine hK.out _ _ ⟨B4, B5, B6, B7, B8, B9⟩ (fun hH => ?_)
            clear hK K
            try simp only [LY]
            clear hH
            refine U_one (i := 13) (by kernel_rfl) rfl (fun K hK => ?_)
            obtain ⟨css, ho1, ho2, ho3, hown0⟩ := Oth
            simp only [List.getElem_toArray, List.getElem_cons_succ, List.getElem_cons_zero]
            rw [if_pos (by rfl)]
            refine wp_append_lies _ _ _ _ (by rfl) w1.heap.size 38 j0 _ 3 56 Tryz.underlying26 hj hy0 hy1 hy2 (by rfl) (by omega) _ _ css.flatten (by rfl) hown0 ⟨w85.heap.size, 0, none⟩ 1 1 [.bool ge17, .slice ae17 ne17 ce17, .slice Ae17 Ne17 De17] (by rfl) (by rfl) Bs.news ?_ (by omega) ?_ ?_ ?_ _ rfl ?_
            ·intro u hu; simp only [List.mem_cons, List.mem_nil_iff, or_false] at hu; rcases hu with rfl | rfl | rfl <;> rfl
            ·unfold maxLen; (try simp only [mapL_len, List.length_append, List.length_cons, List.length_nil]); (try simp only [rgBks_n, rgThs_n]); omega
            ·(try simp only [mapL_len, List.length_append, List.length_cons, List.length_nil]); (try simp only [rgBks_n, rgThs_n]); omega
            ·exact hs.size
            intro gth capth w88 hown1 hgrow hat hlt
            have hk := KeepD.owns hown0 hgrow (by decide)
            have ho := owns_onlyT hown0 hgrow
            replace B4 := hgrow.cell B4 Aq_th_tl.ne
            replace B5 := hgrow.cell B5 Aq_th_tl.ne
            replace B6 := hgrow.cell B6 Aq_th_tl.ne
            replace B7 := hgrow.cell B7 Aq_th_tr.ne
            replace B8 := hgrow.cell B8 Aq_th_tr.ne
            replace B9 := hgrow.cell B9 Aq_th_tr.ne
            replace hs := hs.grown hgrow hs.size (fun k hk => (hown0.lt k hk).1)
            replace Oth := OwnR.push RC.kept ho1 ho2 ho3 (x := trQ L (rgW L t) (n - 1)) rfl ⟨_, _, _, rfl, he17⟩ hown1 hk
            replace Blk := Blk.grown hgrow (fun e => by have := (hown0.lt _ e.symm).1; omega)
            replace h8 := h8.keep hk
            replace he10 := he10.keep hk
            replace he14 := he14.keep hk
            replace he17 := he17.keep hk
            have Aq1 := Aq_th_tl.app hat Vtl.lt
            replace Vtl := OwnG.grown RC.kept Vtl hgrow Aq_th_tl.ne hk
            replace Aq_th_tl := Aq1
            clear Aq1
            have Aq1 := Aq_th_tr.app hat Vtr.lt
            replace Vtr := OwnG.grown RC.kept Vtr hgrow Aq_th_tr.ne hk
            replace Aq_th_tr := Aq1
            clear Aq1
            have Aq1 := Aq_th_lf.app hat Vlf.lt
            replace Vlf := OwnG.grown RC.kept Vlf hgrow Aq_th_lf.ne hk
            replace Aq_th_lf := Aq1
            clear Aq1
            have Aq1 := Aq_th_rt.app hat Vrt.lt
            replace Vrt := OwnG.grown RC.kept Vrt hgrow Aq_th_rt.ne hk
            replace Aq_th_rt := Aq1
            clear Aq1
            have Aq1 := (Aq_bk_th.symm.app hat Obk (Nat.le_refl _)).symm
            replace Obk := Obk.grown RC.kept hgrow Aq_bk_th.symm.or hk
            replace Aq_bk_th := Aq1
            clear Aq1
            clear hk ho ho1 ho2 ho3 hown0 hown1 hgrow Bs
            refine hK.out _ _ ⟨B4, B5, B6, B7, B8, B9⟩ (fun hH => ?_)
            clear hK K
            try simp only [LY]
            refine U_tt 14 ?_ ?_ hH ?_
            rotate_left
            ·(intro w hSw; (try dsimp only at hSw); go_simp; try with_reducible rfl)
            try simp only [LY]
            clear hH
            refine U_last (by kernel_rfl) rfl (by kernel_rfl) (fun K hK => ?_)
            go_simp
            refine hK.out _ _ ?_
            clear hK K
            intro wl hW
            rw [hW]
            clear hW wl
            try simp only [LY]
            clear B4 B5 B6 B7 B8 B9
            go_wp2_with fail
            go_meet
            exact ⟨hs, Blk, h8, he10, Vtl, Vtr, Vlf, Vrt, (by rw [rgBks_succ]; exact Obk), (by rw [rgThs_succ, show L.length - 2 = n - 1 by omega]; exact Oth), Aq_bk_th, Aq_bk_lf, Aq_bk_rt, Aq_th_lf, Aq_th_rt⟩
          ·clear hH
           go_simp
           generalize hWn : (w84.alloc (.cells #[.bool ge17, .slice ae17 ne17 ce17, .slice Ae17 Ne17 De17] 38)) = w85
           have hb : Below w84.heap.size w84 w85 := by rw [← hWn]; exact (Below.refl _ _).alloc (Nat.le_refl _) _
           have Bs : Bx w85 (w84.heap.size) 38 #[.bool ge17, .slice ae17 ne17 ce17, .slice Ae17 Ne17 De17] := by rw [← hWn]; exact Bx.new _ _ _
           have nk_ls0 : w.heap.size ≠ w84.heap.size := by have := Blk.lt; omega
           have sz_ls0 : w1.heap.size ≤ w84.heap.size := hs.size
           have Ap_bk_ls0 := Obk.ap (g := w84.heap.size) (Nat.le_refl _)
           have Ap_th_ls0 := Oth.ap (g := w84.heap.size) (Nat.le_refl _)
           replace hs := bStep hs hb
           replace Blk := Blk.mono hb
           replace h8 := h8.mono hb
           replace he10 := he10.mono hb
           replace he14 := he14.mono hb
           replace he17 := he17.mono hb
           replace Obk := Obk.mono RC.kept hb
           replace Oth := Oth.mono RC.kept hb
           replace Vtl := OwnG.mono RC.kept Vtl hb
           replace Vtr := OwnG.mono RC.kept Vtr hb
           replace Vlf := OwnG.mono RC.kept Vlf hb
           replace Vrt := OwnG.mono RC.kept Vrt hb
           replace B4 := cellK B4 hb
           replace B5 := cellK B5 hb
           replace B6 := cellK B6 hb
           replace B7 := cellK B7 hb
           replace B8 := cellK B8 hb
           replace B9 := cellK B9 hb
           clear hb hWn
           refine hK.out _ _ ⟨B4, B5, B6, B7, B8, B9⟩ (fun hH => ?_)
           clear hK K
           try simp only [LY]
           clear hH
           refine U_one (i := 4) (by kernel_rfl) rfl (fun K hK => ?_)
           go_simp
           generalize hWn : (w85.alloc (.cells #[.bool ge14, .slice ae14 ne14 ce14, .slice Ae14 Ne14 De14] 38)) = w86
           have hb : Below w85.heap.size w85 w86 := by rw [← hWn]; exact (Below.refl _ _).alloc (Nat.le_refl _) _
           have C0 : Bx w86 (w85.heap.size) 38 #[.bool ge14, .slice ae14 ne14 ce14, .slice Ae14 Ne14 De14] := by rw [← hWn]; exact Bx.new _ _ _
           have nk_ls : w.heap.size ≠ w85.heap.size := by have := Blk.lt; omega
           have nls0_ls : w84.heap.size ≠ w85.heap.size := by have := Bs.lt; omega
           have sz_ls : w1.heap.size ≤ w85.heap.size := hs.size
           have Ap_bk_ls := Obk.ap (g := w85.heap.size) (Nat.le_refl _)
           have Ap_th_ls := Oth.ap (g := w85.heap.size) (Nat.le_refl _)
           replace hs := bStep hs hb
           replace Blk := Blk.mono hb
           replace Bs := Bs.mono hb
           replace h8 := h8.mono hb
           replace he10 := he10.mono hb
           replace he14 := he14.mono hb
           replace he17 := he17.mono hb
           replace Obk := Obk.mono RC.kept hb
           replace Oth := Oth.mono RC.kept hb
           replace Vtl := OwnG.mono RC.kept Vtl hb
           replace Vtr := OwnG.mono RC.kept Vtr hb
           replace Vlf := OwnG.mono RC.kept Vlf hb
           replace Vrt := OwnG.mono RC.kept Vrt hb
           replace B4 := cellK B4 hb
           replace B5 := cellK B5 hb
           replace B6 := cellK B6 hb
           replace B7 := cellK B7 hb
           replace B8 := cellK B8 hb
           replace B9 := cellK B9 hb
           clear hb hWn
           refine hK.out _ _ ⟨B4, B5, B6, B7, B8, B9⟩ (fun hH => ?_)
           clear hK K
           try simp only [LY]
           clear hH
           refine U_one (i := 5) (by kernel_rfl) rfl (fun K hK => ?_)
           obtain ⟨css, ho1, ho2, ho3, hown0⟩ := Obk
           simp only [List.getElem_toArray, List.getElem_cons_succ, List.getElem_cons_zero]
           rw [if_pos (by rfl)]
           refine wp_append_lies _ _ _ _ (by rfl) w1.heap.size 38 j0 _ 3 56 Tryz.underlying26 hj hy0 hy1 hy2 (by rfl) (by omega) _ _ css.flatten (by rfl) hown0 ⟨w85.heap.size, 0, none⟩ 1 1 [.bool ge14, .slice ae14 ne14 ce14, .slice Ae14 Ne14 De14] (by rfl) (by rfl) C0.news ?_ (by omega) ?_ ?_ ?_ _ rfl ?_
           ·intro u hu; simp only [List.mem_cons, List.mem_nil_iff, or_false] at hu; rcases hu with rfl | rfl | rfl <;> rfl
           ·unfold maxLen; (try simp only [mapL_len, List.length_append, List.length_cons, List.length_nil]); (try simp only [rgBks_n, rgThs_n]); omega
           ·(try simp only [mapL_len, List.length_append, List.length_cons, List.length_nil]); (try simp only [rgBks_n, rgThs_n]); omega
           ·exact hs.size
           intro gbk capbk w87 hown1 hgrow hat hlt
           have hk := KeepD.owns hown0 hgrow (by decide)
           have ho := owns_onlyT hown0 hgrow
           replace B4 := hgrow.cell B4 Aq_bk_tl.ne
           replace B5 := hgrow.cell B5 Aq_bk_tl.ne
           replace B6 := hgrow.cell B6 Aq_bk_tl.ne
           replace B7 := hgrow.cell B7 Aq_bk_tr.ne
           replace B8 := hgrow.cell B8 Aq_bk_tr.ne
           replace B9 := hgrow.cell B9 Aq_bk_tr.ne
           replace hs := hs.grown hgrow hs.size (fun k hk => (hown0.lt k hk).1)
           replace Obk := OwnR.push RC.kept ho1 ho2 ho3 (x := tlQ L (rgW L t) 0) rfl ⟨_, _, _, rfl, he14⟩ hown1 hk
           replace Blk := Blk.grown hgrow (fun e => by have := (hown0.lt _ e.symm).1; omega)
           have Ap_bk_ls01 := Ap_bk_ls0.app hat Bs.lt
           replace Bs := Bs.grown hgrow Ap_bk_ls0.ne
           replace Ap_bk_ls0 := Ap_bk_ls01
           clear Ap_bk_ls01
           replace h8 := h8.keep hk
           replace he10 := he10.keep hk
           replace he14 := he14.keep hk
           replace he17 := he17.keep hk
           have Aq1 := Aq_bk_tl.app hat Vtl.lt
           replace Vtl := OwnG.grown RC.kept Vtl hgrow Aq_bk_tl.ne hk
           replace Aq_bk_tl := Aq1
           clear Aq1
           have Aq1 := Aq_bk_tr.app hat Vtr.lt
           replace Vtr := OwnG.grown RC.kept Vtr hgrow Aq_bk_tr.ne hk
           replace Aq_bk_tr := Aq1
           clear Aq1
           have Aq1 := Aq_bk_lf.app hat Vlf.lt
           replace Vlf := OwnG.grown RC.kept Vlf hgrow Aq_bk_lf.ne hk
           replace Aq_bk_lf := Aq1
           clear Aq1
           have Aq1 := Aq_bk_rt.app hat Vrt.lt
           replace Vrt := OwnG.grown RC.kept Vrt hgrow Aq_bk_rt.ne hk
           replace Aq_bk_rt := Aq1
           clear Aq1
           have Aq1 := Aq_bk_th.app hat Oth (Nat.le_refl _)
           replace Oth := Oth.grown RC.kept hgrow Aq_bk_th.or hk
           replace Aq_bk_th := Aq1
           clear Aq1
           clear hk ho ho1 ho2 ho3 hown0 hown1 hgrow C0
           refine hK.out _ _ ⟨B4, B5, B6, B7, B8, B9⟩ (fun hH => ?_)
           clear hK K
           try simp only [LY]
           clear hH
           refine U_one (i := 13) (by kernel_rfl) rfl (fun K hK => ?_)
           obtain ⟨css, ho1, ho2, ho3, hown0⟩ := Oth
           simp only [List.getElem_toArray, List.getElem_cons_succ, List.getElem_cons_zero]
           rw [if_pos (by rfl)]
           refine wp_append_lies _ _ _ _ (by rfl) w1.heap.size 38 j0 _ 3 56 Tryz.underlying26 hj hy0 hy1 hy2 (by rfl) (by omega) _ _ css.flatten (by rfl) hown0 ⟨w84.heap.size, 0, none⟩ 1 1 [.bool ge17, .slice ae17 ne17 ce17, .slice Ae17 Ne17 De17] (by rfl) (by rfl) Bs.news ?_ (by omega) ?_ ?_ ?_ _ rfl ?_
           ·intro u hu; simp only [List.mem_cons, List.mem_nil_iff, or_false] at hu; rcases hu with rfl | rfl | rfl <;> rfl
           ·unfold maxLen; (try simp only [mapL_len, List.length_append, List.length_cons, List.length_nil]); (try simp only [rgBks_n, rgThs_n]); omega
           ·(try simp only [mapL_len, List.length_append, List.length_cons, List.length_nil]); (try simp only [rgBks_n, rgThs_n]); omega
           ·exact hs.size
           intro gth capth w88 hown1 hgrow hat hlt
           have hk := KeepD.owns hown0 hgrow (by decide)
           have ho := owns_onlyT hown0 hgrow
           replace B4 := hgrow.cell B4 Aq_th_tl.ne
           replace B5 := hgrow.cell B5 Aq_th_tl.ne
           replace B6 := hgrow.cell B6 Aq_th_tl.ne
           replace B7 := hgrow.cell B7 Aq_th_tr.ne
           replace B8 := hgrow.cell B8 Aq_th_tr.ne
           replace B9 := hgrow.cell B9 Aq_th_tr.ne
           replace hs := hs.grown hgrow hs.size (fun k hk => (hown0.lt k hk).1)
           replace Oth := OwnR.push RC.kept ho1 ho2 ho3 (x := trQ L (rgW L t) (n - 1)) rfl ⟨_, _, _, rfl, he17⟩ hown1 hk
           replace Blk := Blk.grown hgrow (fun e => by have := (hown0.lt _ e.symm).1; omega)
           replace h8 := h8.keep hk
           replace he10 := he10.keep hk
           replace he14 := he14.keep hk
           replace he17 := he17.keep hk
           have Aq1 := Aq_th_tl.app hat Vtl.lt
           replace Vtl := OwnG.grown RC.kept Vtl hgrow Aq_th_tl.ne hk
           replace Aq_th_tl := Aq1
           clear Aq1
           have Aq1 := Aq_th_tr.app hat Vtr.lt
           replace Vtr := OwnG.grown RC.kept Vtr hgrow Aq_th_tr.ne hk
           replace Aq_th_tr := Aq1
           clear Aq1
           have Aq1 := Aq_th_lf.app hat Vlf.lt
           replace Vlf := OwnG.grown RC.kept Vlf hgrow Aq_th_lf.ne hk
           replace Aq_th_lf := Aq1
           clear Aq1
           have Aq1 := Aq_th_rt.app hat Vrt.lt
           replace Vrt := OwnG.grown RC.kept Vrt hgrow Aq_th_rt.ne hk
           replace Aq_th_rt := Aq1
           clear Aq1
           have Aq1 := (Aq_bk_th.symm.app hat Obk (Nat.le_refl _)).symm
           replace Obk := Obk.grown RC.kept hgrow Aq_bk_th.symm.or hk
           replace Aq_bk_th := Aq1
           clear Aq1
           clear hk ho ho1 ho2 ho3 hown0 hown1 hgrow Bs
           refine hK.out _ _ ⟨B4, B5, B6, B7, B8, B9⟩ (fun hH => ?_)
           clear hK K
           try simp only [LY]
           refine U_tt 14 ?_ ?_ hH ?_
           rotate_left
           ·(intro w hSw; (try dsimp only at hSw); go_simp; try with_reducible rfl)
           try simp only [LY]
           clear hH
           refine U_last (by kernel_rfl) rfl (by kernel_rfl) (fun K hK => ?_)
           go_simp
           refine hK.out _ _ ?_
           clear hK K
           intro wl hW
           rw [hW]
           clear hW wl
           try simp only [LY]
           clear B4 B5 B6 B7 B8 B9
           go_wp2_with fail
           go_meet
           exact ⟨hs, Blk, h8, he10, Vtl, Vtr, Vlf, Vrt, (by rw [rgBks_succ]; exact Obk), (by rw [rgThs_succ, show L.length - 2 = n - 1 by omega]; exact Oth), Aq_bk_th, Aq_bk_lf, Aq_bk_rt, Aq_th_lf, Aq_th_rt⟩
         case rest =>
          clear hs Blk h8 he10 Vtl Vtr Vlf Vrt Obk Oth Aq_bk_th Aq_bk_lf Aq_bk_rt Aq_th_lf Aq_th_rt Aq_bk_tl Aq_bk_tr Aq_th_tl Aq_th_tr
          obtain ⟨hs, Blk, h8, he10, Vtl, Vtr, Vlf, Vrt, Obk, Oth, Aq_bk_th, Aq_bk_lf, Aq_bk_rt, Aq_th_lf, Aq_th_rt⟩ := hcut
          go_wp2
          go_loopw [20] (fun s20 wq => ∃ i : Nat, i ≤ n ∧ s20 = .int .i64 i ∧ Below w1.heap.size w1 wq ∧ Bx wq (w.heap.size) 38 #[.bool false, .slice none 0 0, .slice none 0 0] ∧ RV wq (.agg #[.bool sh8, .slice ah8 nh8 ch8, .slice Ah8 Nh8 Ch8]) (1) ∧ RV wq (.agg #[.bool ge10, .slice ae10 ne10 ce10, .slice Ae10 Ne10 De10]) (nthQ (mapL (fun _ => 0) n) 0) ∧ OwnG wt.heap.size 38 3 RC ctl wq (gtl) (mapL (tlQ L (rgW L t)) n) ∧ OwnG wt.heap.size 38 3 RC ctr wq (gtr) (mapL (trQ L (rgW L t)) n) ∧ OwnR w1.heap.size 38 3 RC wq u13 (rgBks L (t + 1)) ∧ OwnR w1.heap.size 38 3 RC wq u14 (rgThs L (t + 1)) ∧ (OwnG w1.heap.size 38 3 RC clf wq (glf) (mapL (mxF ((rgW L t).1) ((rgW L (t + 1)).1) i) n)) ∧ (OwnG w1.heap.size 38 3 RC crt wq (grt) (mapL (mxF ((rgW L t).2) ((rgW L (t + 1)).2) i) n))) (fun s20 _ => n - (intOf s20).toNat)
          case atStart => exact ⟨0, Nat.zero_le _, rfl, hs, Blk, h8, he10, Vtl, Vtr, Obk, Oth, (by rw [mxF_zero]; exact Vlf), (by rw [mxF_zero]; exact Vrt)⟩
          case round =>
           clear Blk h8 he10 Vtl Vtr Obk Oth hs
           obtain ⟨i, k_le, rfl, hs, Blk, h8, he10, Vtl, Vtr, Obk, Oth, Vlf, Vrt⟩ := hrel
           obtain ⟨wj, hwo⟩ : ∃ x, x = wr := ⟨_, rfl⟩
           subst hwo
           replace Vlf := Lib.hid Vlf
           replace Vrt := Lib.hid Vrt
           replace Vlf := Vlf.out
           replace Vrt := Vrt.out
           by_cases q14 : i < n
           ·have q14d : ((i : Int) < (n : Int)) = True := eq_true (by omega)
            go_wp2_with fail
            with_reducible refine (r7_zero _).mono ?_
            rintro e w104 ⟨_, rfl, h15, hb⟩
            obtain ⟨sh15, ah15, nh15, ch15, Ah15, Nh15, Ch15, rfl⟩ := h15.shape
            replace hs := bStep hs hb
            replace Blk := Blk.mono hb
            replace h8 := h8.mono hb
            replace he10 := he10.mono hb
            replace Vtl := OwnG.mono RC.kept Vtl hb
            replace Vtr := OwnG.mono RC.kept Vtr hb
            replace Obk := ownRJ RC.kept _ _ _ Obk hb
            replace Oth := ownRJ RC.kept _ _ _ Oth hb
            replace Vlf := OwnG.mono RC.kept Vlf hb
            replace Vrt := OwnG.mono RC.kept Vrt hb
            clear hb
            go_wp2_with fail
            with_reducible refine (r7_zero _).mono ?_
            rintro e w105 ⟨_, rfl, h16, hb⟩
            obtain ⟨sh16, ah16, nh16, ch16, Ah16, Nh16, Ch16, rfl⟩ := h16.shape
            replace hs := bStep hs hb
            replace Blk := Blk.mono hb
            replace h8 := h8.mono hb
            replace he10 := he10.mono hb
            replace h15 := h15.mono hb
            replace Vtl := OwnG.mono RC.kept Vtl hb
            replace Vtr := OwnG.mono RC.kept Vtr hb
            replace Obk := ownRJ RC.kept _ _ _ Obk hb
            replace Oth := ownRJ RC.kept _ _ _ Oth hb
            replace Vlf := OwnG.mono RC.kept Vlf hb
            replace Vrt := OwnG.mono RC.kept Vrt hb
            clear hb
            have BI17a : i < n := by omega
            have BI17b : ((i : Int) : Int) < (n : Int) := by omega
            obtain ⟨ge18, ae18, ne18, ce18, Ae18, Ne18, De18, Bt, Bu, Bv, he18, le18⟩ := ownR_at Vlf (show i < (mapL (mxF ((rgW L t).1) ((rgW L (t + 1)).1) i) n).length by (simp only [List.length_set, mapL_len]; omega))
            obtain ⟨ge19, ae19, ne19, ce19, Ae19, Ne19, De19, Bd, Be, Bf, he19, le19⟩ := ownR_at Vrt (show i < (mapL (mxF ((rgW L t).2) ((rgW L (t + 1)).2) i) n).length by (simp only [List.length_set, mapL_len]; omega))
            have fVlf := Vlf.free
            have LVlf := Vlf.lt
            have fVrt := Vrt.free
            have LVrt := Vrt.lt
            go_upto_region 33 with fail
            clear fVlf LVlf fVrt LVrt le18 Bt Bu Bv le19 Bd Be Bf
            refine Code.abs ?_
            intro w107 hW2
            obtain ⟨w106, hW⟩ : ∃ x : World, x = (((w105.setCell ⟨glf, i * 3, none⟩ (.bool sh15)).setCell ⟨glf, i * 3 + 1, none⟩ (.slice ah15 nh15 ch15)).setCell ⟨glf, i * 3 + 2, none⟩ (.slice Ah15 Nh15 Ch15)) := ⟨_, rfl⟩
            have hW3 : w107 = (((w106.setCell ⟨grt, i * 3, none⟩ (.bool sh16)).setCell ⟨grt, i * 3 + 1, none⟩ (.slice ah16 nh16 ch16)).setCell ⟨grt, i * 3 + 2, none⟩ (.slice Ah16 Nh16 Ch16)) := by rw [hW]; exact hW2
            clear hW2
            have hG : Gr [glf] w105 w106 := by rw [hW]; exact (Gr.refl _ _).set.set.set
            have hsz := hs.size
            have hbw : Below w1.heap.size w105 w106 := hG.below1 hs.size (by first | omega | assumption)
            have hk : KeepD w105 w106 := hG.keep ⟨⟨_, Vlf.ty, by decide⟩, True.intro⟩
            have V1lf : OwnG w1.heap.size 38 3 RC clf w106 (glf) ((mapL (mxF ((rgW L t).1) ((rgW L (t + 1)).1) i) n).set i 0) := by rw [hW]; exact Vlf.put3 RC.kept (show i < (mapL (mxF ((rgW L t).1) ((rgW L (t + 1)).1) i) n).length by simp only [List.length_set, mapL_len]; omega) (by decide) ⟨_, _, _, rfl, h15⟩ ((Gr.refl _ _))
            replace hs := hs.trans hbw
            replace Vtl := OwnG.gr RC.kept Vtl hG (notMem1 (by omega)) hk
            replace Vtr := OwnG.gr RC.kept Vtr hG (notMem1 (by omega)) hk
            replace Obk := Obk.gr RC.kept hG (Ap.one Aq_bk_lf) hk
            replace Oth := Oth.gr RC.kept hG (Ap.one Aq_th_lf) hk
            replace Vrt := OwnG.gr RC.kept Vrt hG (notMem1 (by omega)) hk
            replace Blk := hG.bx Blk (notMem1 (by omega))
            replace Vlf := V1lf
            clear V1lf
            replace h8 := h8.keep hk
            replace he10 := he10.keep hk
            replace h15 := h15.keep hk
            replace h16 := h16.keep hk
            replace he18 := he18.keep hk
            replace he19 := he19.keep hk
            clear hW hG hk hbw hsz
            have hW := hW3
            clear hW3
            have hG : Gr [grt] w106 w107 := by rw [hW]; exact (Gr.refl _ _).set.set.set
            have hsz := hs.size
            have hbw : Below w1.heap.size w106 w107 := hG.below1 hs.size (by first | omega | assumption)
            have hk : KeepD w106 w107 := hG.keep ⟨⟨_, Vrt.ty, by decide⟩, True.intro⟩
            have V1rt : OwnG w1.heap.size 38 3 RC crt w107 (grt) ((mapL (mxF ((rgW L t).2) ((rgW L (t + 1)).2) i) n).set i 0) := by rw [hW]; exact Vrt.put3 RC.kept (show i < (mapL (mxF ((rgW L t).2) ((rgW L (t + 1)).2) i) n).length by simp only [List.length_set, mapL_len]; omega) (by decide) ⟨_, _, _, rfl, h16⟩ ((Gr.refl _ _))
            replace hs := hs.trans hbw
            replace Vtl := OwnG.gr RC.kept Vtl hG (notMem1 (by omega)) hk
            replace Vtr := OwnG.gr RC.kept Vtr hG (notMem1 (by omega)) hk
            replace Obk := Obk.gr RC.kept hG (Ap.one Aq_bk_rt) hk
            replace Oth := Oth.gr RC.kept hG (Ap.one Aq_th_rt) hk
            replace Vlf := OwnG.gr RC.kept Vlf hG (notMem1 (by omega)) hk
            replace Blk := hG.bx Blk (notMem1 (by omega))
            replace Vrt := V1rt
            clear V1rt
            replace h8 := h8.keep hk
            replace he10 := he10.keep hk
            replace h15 := h15.keep hk
            replace h16 := h16.keep hk
            replace he18 := he18.keep hk
            replace he19 := he19.keep hk
            clear hW hG hk hbw hsz
            by_cases q20 : 0 < i
            ·have q20d : ((0 : Int) < (i : Int)) = True := eq_true (by omega)
             have SW21a := IntWalk.i64_in ((i : Int) - 1) (by omega)
             have SW21b : (0 : Int) ≤ (i : Int) - 1 := by omega
             have SW21c : ((i : Int) - 1).toNat = (i - 1) := by omega
             have SW21d : (i : Int) - 1 < (n : Int) := by omega
             have SW21e : (1 : Int) ≤ (i : Int) := by omega
             have SW21f : (i : Int) < (n : Int) + 1 := by omega
             have BI22a : (i - 1) < n := by omega
             have BI22b : ((i : Int) - 1 : Int) < (n : Int) := by omega
             obtain ⟨ge23, ae23, ne23, ce23, Ae23, Ne23, De23, Ck, Cl, Cm, he23, le23⟩ := ownR_at Vtr (show (i - 1) < (mapL (trQ L (rgW L t)) n).length by (simp only [List.length_set, mapL_len]; omega))
             rw [mapL_nth (show (i - 1) < n by omega)] at he23
             obtain ⟨ge24, ae24, ne24, ce24, Ae24, Ne24, De24, Cb, Cc, Cd, he24, le24⟩ := ownR_at Vlf (show i < ((mapL (mxF ((rgW L t).1) ((rgW L (t + 1)).1) i) n).set i 0).length by (simp only [List.length_set, mapL_len]; omega))
             have fVlf := Vlf.free
             have LVlf := Vlf.lt
             go_upto_region 35 with fail
             clear fVlf LVlf le23 Ck Cl Cm le24 Cb Cc Cd
             refine Code.abs ?_
             intro w108 hW
             have hG : Gr [glf] w107 w108 := by rw [hW]; exact (Gr.refl _ _).set.set.set
             have hsz := hs.size
             have hbw : Below w1.heap.size w107 w108 := hG.below1 hs.size (by first | omega | assumption)
             have hk : KeepD w107 w108 := hG.keep ⟨⟨_, Vlf.ty, by decide⟩, True.intro⟩
             have V1lf : OwnG w1.heap.size 38 3 RC clf w108 (glf) (((mapL (mxF ((rgW L t).1) ((rgW L (t + 1)).1) i) n).set i 0).set i (trQ L (rgW L t) (i - 1))) := by rw [hW]; exact Vlf.put3 RC.kept (show i < (((mapL (mxF ((rgW L t).1) ((rgW L (t + 1)).1) i) n).set i 0)).length by simp only [List.length_set, mapL_len]; omega) (by decide) ⟨_, _, _, rfl, he23⟩ ((Gr.refl _ _))
             rw [mxF_set2 (show i < n by omega) (rgW1_pos (by omega) (by omega))] at V1lf
             replace hs := hs.trans hbw
             replace Vtl := OwnG.gr RC.kept Vtl hG (notMem1 (by omega)) hk
             replace Vtr := OwnG.gr RC.kept Vtr hG (notMem1 (by omega)) hk
             replace Obk := Obk.gr RC.kept hG (Ap.one Aq_bk_lf) hk
             replace Oth := Oth.gr RC.kept hG (Ap.one Aq_th_lf) hk
             replace Vrt := OwnG.gr RC.kept Vrt hG (notMem1 (by omega)) hk
             replace Blk := hG.bx Blk (notMem1 (by omega))
             replace Vlf := V1lf
             clear V1lf
             replace h8 := h8.keep hk
             replace he10 := he10.keep hk
             replace h15 := h15.keep hk
             replace h16 := h16.keep hk
             replace he18 := he18.keep hk
             replace he19 := he19.keep hk
             replace he23 := he23.keep hk
             replace he24 := he24.keep hk
             clear hW hG hk hbw hsz
             by_cases q25 : (i : Int) + 1 < (n : Int)
             ·have q25d : ((i : Int) + 1 < (n : Int)) = True := eq_true (by omega)
              have SW26a := IntWalk.i64_in ((i : Int) + 1) (by omega)
              have SW26b : (0 : Int) ≤ (i : Int) + 1 := by omega
              have SW26c : ((i : Int) + 1).toNat = (i + 1) := by omega
              have SW26d : (i : Int) + 1 < (n : Int) := by omega
              have BI27a : (i + 1) < n := by omega
              have BI27b : ((i : Int) + 1 : Int) < (n : Int) := by omega
              obtain ⟨ge28, ae28, ne28, ce28, Ae28, Ne28, De28, Cn, Co, Cp, he28, le28⟩ := ownR_at Vtl (show (i + 1) < (mapL (tlQ L (rgW L t)) n).length by (simp only [List.length_set, mapL_len]; omega))
              rw [mapL_nth (show (i + 1) < n by omega)] at he28
              obtain ⟨ge29, ae29, ne29, ce29, Ae29, Ne29, De29, Cq, Cr, Cs, he29, le29⟩ := ownR_at Vrt (show i < ((mapL (mxF ((rgW L t).2) ((rgW L (t + 1)).2) i) n).set i 0).length by (simp only [List.length_set, mapL_len]; omega))
              have fVrt := Vrt.free
              have LVrt := Vrt.lt
              go_upto_region 31 with fail
              clear fVrt LVrt le28 Cn Co Cp le29 Cq Cr Cs
              refine Code.abs ?_
              intro w109 hW
              have hG : Gr [grt] w108 w109 := by rw [hW]; exact (Gr.refl _ _).set.set.set
              have hsz := hs.size
              have hbw : Below w1.heap.size w108 w109 := hG.below1 hs.size (by first | omega | assumption)
              have hk : KeepD w108 w109 := hG.keep ⟨⟨_, Vrt.ty, by decide⟩, True.intro⟩
              have V1rt : OwnG w1.heap.size 38 3 RC crt w109 (grt) (((mapL (mxF ((rgW L t).2) ((rgW L (t + 1)).2) i) n).set i 0).set i (tlQ L (rgW L t) (i + 1))) := by rw [hW]; exact Vrt.put3 RC.kept (show i < (((mapL (mxF ((rgW L t).2) ((rgW L (t + 1)).2) i) n).set i 0)).length by simp only [List.length_set, mapL_len]; omega) (by decide) ⟨_, _, _, rfl, he28⟩ ((Gr.refl _ _))
              rw [mxF_set2 (show i < n by omega) (rgW2_pos (by omega))] at V1rt
              replace hs := hs.trans hbw
              replace Vtl := OwnG.gr RC.kept Vtl hG (notMem1 (by omega)) hk
              replace Vtr := OwnG.gr RC.kept Vtr hG (notMem1 (by omega)) hk
              replace Obk := Obk.gr RC.kept hG (Ap.one Aq_bk_rt) hk
              replace Oth := Oth.gr RC.kept hG (Ap.one Aq_th_rt) hk
              replace Vlf := OwnG.gr RC.kept Vlf hG (notMem1 (by omega)) hk
              replace Blk := hG.bx Blk (notMem1 (by omega))
              replace Vrt := V1rt
              clear V1rt
              replace h8 := h8.keep hk
              replace he10 := he10.keep hk
              replace h15 := h15.keep hk
              replace h16 := h16.keep hk
              replace he18 := he18.keep hk
              replace he19 := he19.keep hk
              replace he23 := he23.keep hk
              replace he24 := he24.keep hk
              replace he28 := he28.keep hk
              replace he29 := he29.keep hk
              clear hW hG hk hbw hsz
              go_wp2
              go_roundw
              case rel => exact ⟨i + 1, by omega, by go_num, hs, Blk, h8, he10, Vtl, Vtr, Obk, Oth, Vlf, Vrt⟩
              all_goals first | (simp [intOf]; done) | (simp [intOf]; omega)
             ·have q25d : ((i : Int) + 1 < (n : Int)) = False := eq_false (by omega)
              go_wp2
              go_roundw
              case rel => exact ⟨i + 1, by omega, by go_num, hs, Blk, h8, he10, Vtl, Vtr, Obk, Oth, Vlf, (by rw [← mxF_set (show i < n by omega) (rgW2_last (by omega))]; exact Vrt)⟩
              all_goals first | (simp [intOf]; done) | (simp [intOf]; omega)
            ·have q20d : ((0 : Int) < (i : Int)) = False := eq_false (by omega)
             by_cases q21 : (i : Int) + 1 < (n : Int)
             ·have q21d : ((i : Int) + 1 < (n : Int)) = True := eq_true (by omega)
              have SW22a := IntWalk.i64_in ((i : Int) + 1) (by omega)
              have SW22b : (0 : Int) ≤ (i : Int) + 1 := by omega
              have SW22c : ((i : Int) + 1).toNat = (i + 1) := by omega
              have SW22d : (i : Int) + 1 < (n : Int) := by omega
              have BI23a : (i + 1) < n := by omega
              have BI23b : ((i : Int) + 1 : Int) < (n : Int) := by omega
              obtain ⟨ge24, ae24, ne24, ce24, Ae24, Ne24, De24, Cb, Cc, Cd, he24, le24⟩ := ownR_at Vtl (show (i + 1) < (mapL (tlQ L (rgW L t)) n).length by (simp only [List.length_set, mapL_len]; omega))
              rw [mapL_nth (show (i + 1) < n by omega)] at he24
              obtain ⟨ge25, ae25, ne25, ce25, Ae25, Ne25, De25, Bg, Bh, Bi, he25, le25⟩ := ownR_at Vrt (show i < ((mapL (mxF ((rgW L t).2) ((rgW L (t + 1)).2) i) n).set i 0).length by (simp only [List.length_set, mapL_len]; omega))
              have fVrt := Vrt.free
              have LVrt := Vrt.lt
              go_upto_region 31 with fail
              clear fVrt LVrt le24 Cb Cc Cd le25 Bg Bh Bi
              refine Code.abs ?_
              intro w108 hW
              have hG : Gr [grt] w107 w108 := by rw [hW]; exact (Gr.refl _ _).set.set.set
              have hsz := hs.size
              have hbw : Below w1.heap.size w107 w108 := hG.below1 hs.size (by first | omega | assumption)
              have hk : KeepD w107 w108 := hG.keep ⟨⟨_, Vrt.ty, by decide⟩, True.intro⟩
              have V1rt : OwnG w1.heap.size 38 3 RC crt w108 (grt) (((mapL (mxF ((rgW L t).2) ((rgW L (t + 1)).2) i) n).set i 0).set i (tlQ L (rgW L t) (i + 1))) := by rw [hW]; exact Vrt.put3 RC.kept (show i < (((mapL (mxF ((rgW L t).2) ((rgW L (t + 1)).2) i) n).set i 0)).length by simp only [List.length_set, mapL_len]; omega) (by decide) ⟨_, _, _, rfl, he24⟩ ((Gr.refl _ _))
              rw [mxF_set2 (show i < n by omega) (rgW2_pos (by omega))] at V1rt
              replace hs := hs.trans hbw
              replace Vtl := OwnG.gr RC.kept Vtl hG (notMem1 (by omega)) hk
              replace Vtr := OwnG.gr RC.kept Vtr hG (notMem1 (by omega)) hk
              replace Obk := Obk.gr RC.kept hG (Ap.one Aq_bk_rt) hk
              replace Oth := Oth.gr RC.kept hG (Ap.one Aq_th_rt) hk
              replace Vlf := OwnG.gr RC.kept Vlf hG (notMem1 (by omega)) hk
              replace Blk := hG.bx Blk (notMem1 (by omega))
              replace Vrt := V1rt
              clear V1rt
              replace h8 := h8.keep hk
              replace he10 := he10.keep hk
              replace h15 := h15.keep hk
              replace h16 := h16.keep hk
              replace he18 := he18.keep hk
              replace he19 := he19.keep hk
              replace he24 := he24.keep hk
              replace he25 := he25.keep hk
              clear hW hG hk hbw hsz
              go_wp2
              go_roundw
              case rel => exact ⟨i + 1, by omega, by go_num, hs, Blk, h8, he10, Vtl, Vtr, Obk, Oth, (by rw [← mxF_set (show i < n by omega) (show (0 : Rat) = (rgW L (t + 1)).1 i by rw [show i = 0 by omega]; exact rgW1_zero L t)]; exact Vlf), Vrt⟩
              all_goals first | (simp [intOf]; done) | (simp [intOf]; omega)
             ·have q21d : ((i : Int) + 1 < (n : Int)) = False := eq_false (by omega)
              go_wp2
              go_roundw
              case rel => exact ⟨i + 1, by omega, by go_num, hs, Blk, h8, he10, Vtl, Vtr, Obk, Oth, (by rw [← mxF_set (show i < n by omega) (show (0 : Rat) = (rgW L (t + 1)).1 i by rw [show i = 0 by omega]; exact rgW1_zero L t)]; exact Vlf), (by rw [← mxF_set (show i < n by omega) (rgW2_last (by omega))]; exact Vrt)⟩
              all_goals first | (simp [intOf]; done) | (simp [intOf]; omega)
           ·have q14d : ((i : Int) < (n : Int)) = False := eq_false (by omega)
            obtain rfl : n = i := by omega
            rw [mxF_all] at Vlf Vrt
            clear Vtl Vtr
            go_wp2
            go_roundw
            case rel => exact ⟨t + 1, by omega, by go_num, hs, Blk, h8, he10, Obk, Oth, Aq_bk_lf, Aq_bk_rt, Aq_th_lf, Aq_th_rt, Vlf, Vrt, Aq_bk_th⟩
            all_goals first | (simp [intOf]; done) | (simp [intOf]; omega)
      ·have q11d : ((t : Int) < (Kn : Int)) = False := eq_false (by omega)
       obtain rfl : Kn = t := by omega
       go_upto_region 37 with fail
       have HB1_12 := Lib.hid hs
       clear hs
       have hs := Below.refl wt.heap.size wt
       have nb_k := Blk.lt
       have FVlf := Lib.hid Vlf
       clear Vlf
       have FVrt := Lib.hid Vrt
       clear Vrt
       have FObk := Lib.hid Obk
       clear Obk
       have FOth := Lib.hid Oth
       clear Oth
       have nb_lf : glf < wt.heap.size := FVlf.out.lt
       have nb_rt : grt < wt.heap.size := FVrt.out.lt
       have nb_rb2 : rb < wt.heap.size := by have := HB1_12.out.size; omega
       go_wp2_with fail
       with_reducible refine (r7_zero _).mono ?_
       rintro e w64 ⟨_, rfl, h13, hb⟩
       obtain ⟨sh13, ah13, nh13, ch13, Ah13, Nh13, Ch13, rfl⟩ := h13.shape
       replace hs := bStep hs hb
       replace Blk := Blk.mono hb
       replace h8 := h8.mono hb
       replace he10 := he10.mono hb
       clear hb
       go_wp2
       have nv14 : glf < w64.heap.size := (OwnG.mono RC.kept FVlf.out hs).lt
       have nv15 : grt < w64.heap.size := (OwnG.mono RC.kept FVrt.out hs).lt
       refine Code.abs ?_
       intro w65 hW
       have hG : Gr [] w64 w65 := by rw [hW]; exact (Gr.refl _ _).alloc
       have hbw : Below wt.heap.size w64 w65 := hG.below0 hs.size
       have hk : KeepD w64 w65 := hG.keep True.intro
       have sz_w65 : wt.heap.size ≤ w64.heap.size := hs.size
       have nk_w65 := Blk.lt
       have B0 : Bx w65 (w64.heap.size) 38 #[.bool sh13, .slice ah13 nh13 ch13, .slice Ah13 Nh13 Ch13] := by rw [hW]; exact (Bx.new0 _ _ _)
       replace hs := hs.trans hbw
       replace Blk := hG.bx Blk notMem0
       replace h8 := h8.keep hk
       replace he10 := he10.keep hk
       replace h13 := h13.keep hk
       clear hW hG hk hbw
       have hz_w65 := B0.lt
       go_loopw [22] (fun s22 wq => ∃ i : Nat, i ≤ n ∧ s22 = .int .i64 i ∧ Below wt.heap.size wt wq ∧ Bx wq (w.heap.size) 38 #[.bool false, .slice none 0 0, .slice none 0 0] ∧ RV wq (.agg #[.bool sh8, .slice ah8 nh8 ch8, .slice Ah8 Nh8 Ch8]) (1) ∧ RV wq (.agg #[.bool ge10, .slice ae10 ne10 ce10, .slice Ae10 Ne10 De10]) (nthQ (mapL (fun _ => 0) n) 0) ∧ BoxR wq (w64.heap.size) (rgIn L (rgW L Kn) i)) (fun s22 _ => n - (intOf s22).toNat)
       case atStart => exact ⟨0, Nat.zero_le _, rfl, hs, Blk, h8, he10, ⟨_, _, _, _, _, _, _, B0, h13⟩⟩
       case round =>
        clear Blk B0 h8 he10 h13 hs
        obtain ⟨i, k_le, rfl, hs, Blk, h8, he10, ⟨sh16, ah16, nh16, ch16, Ah16, Nh16, Ch16, B0, h16⟩⟩ := hrel
        obtain ⟨wi, hwo⟩ : ∃ x, x = wr := ⟨_, rfl⟩
        subst hwo
        by_cases q17 : i < n
        ·have q17d : ((i : Int) < (n : Int)) = True := eq_true (by omega)
         go_upto_region 41 with fail
         have BI18a : i < n := by omega
         have BI18b : ((i : Int) : Int) < (n : Int) := by omega
         obtain ⟨ge19, ae19, ne19, ce19, Ae19, Ne19, De19, Bd, Be, Bf, he19, le19⟩ := ownR_at (OwnG.mono RC.kept FVlf.out hs) (show i < (mapL (rgW L Kn).1 n).length by (simp only [List.length_set, mapL_len]; omega))
         rw [mapL_nth (show i < n by omega)] at he19
         have BI21a : i < L.length := by omega
         have BI21b : ((i : Int) : Int) < (L.length : Int) := by omega
         obtain ⟨ge22a, ae22a, ne22a, ce22a, Ae22a, Ne22a, De22a, C1, C2, C3, he22a, le22⟩ := rowR_at (HL.out.mono RC.kept (bStep HB0_1.out (bStep HB1_12.out hs))) (show i < L.length by omega)
         refine U_region (S := fun w' => w'.cell? ⟨w64.heap.size, 0, none⟩ = some (.bool sh16) ∧ w'.cell? ⟨w64.heap.size, 1, none⟩ = some (.slice ah16 nh16 ch16) ∧ w'.cell? ⟨w64.heap.size, 2, none⟩ = some (.slice Ah16 Nh16 Ch16) ∧ w'.cell? ⟨glf, i * 3, none⟩ = some (.bool ge19) ∧ w'.cell? ⟨glf, i * 3 + 1, none⟩ = some (.slice ae19 ne19 ce19) ∧ w'.cell? ⟨glf, i * 3 + 2, none⟩ = some (.slice Ae19 Ne19 De19) ∧ w'.cell? ⟨rb, ro + i * 3, none⟩ = some (.bool ge22a) ∧ w'.cell? ⟨rb, ro + i * 3 + 1, none⟩ = some (.slice ae22a ne22a ce22a) ∧ w'.cell? ⟨rb, ro + i * 3 + 2, none⟩ = some (.slice Ae22a Ne22a De22a)) (by kernel_rfl) 16 ?_
         refine AnyU.abs ?_
         intro w86 hW
         have hb : Below wi.heap.size wi w86 := by rw [hW]; exact bDrew _
         replace hs := bStep hs hb
         replace Blk := Blk.mono hb
         replace B0 := B0.mono hb
         replace h8 := h8.mono hb
         replace he10 := he10.mono hb
         replace h16 := h16.mono hb
         replace he19 := he19.mono hb
         replace he22a := he22a.mono hb
         replace Bd := cellK Bd hb
         replace Be := cellK Be hb
         replace Bf := cellK Bf hb
         replace C1 := cellK C1 hb
         replace C2 := cellK C2 hb
         replace C3 := cellK C3 hb
         clear hb hW
         have B1 := B0.a0
         have B2 := B0.a1
         have B3 := B0.a2
         have hH := (show w86.cell? ⟨w64.heap.size, 0, none⟩ = some (.bool sh16) ∧ w86.cell? ⟨w64.heap.size, 1, none⟩ = some (.slice ah16 nh16 ch16) ∧ w86.cell? ⟨w64.heap.size, 2, none⟩ = some (.slice Ah16 Nh16 Ch16) ∧ w86.cell? ⟨glf, i * 3, none⟩ = some (.bool ge19) ∧ w86.cell? ⟨glf, i * 3 + 1, none⟩ = some (.slice ae19 ne19 ce19) ∧ w86.cell? ⟨glf, i * 3 + 2, none⟩ = some (.slice Ae19 Ne19 De19) ∧ w86.cell? ⟨rb, ro + i * 3, none⟩ = some (.bool ge22a) ∧ w86.cell? ⟨rb, ro + i * 3 + 1, none⟩ = some (.slice ae22a ne22a ce22a) ∧ w86.cell? ⟨rb, ro + i * 3 + 2, none⟩ = some (.slice Ae22a Ne22a De22a) from ⟨B1, B2, B3, Bd, Be, Bf, C1, C2, C3⟩)
         refine U_tt 0 ?_ ?_ hH ?_
         rotate_left
         ·(intro w hSw; (try dsimp only at hSw); go_simp; try with_reducible rfl)
         try simp only [LY]
         refine U_tt 1 ?_ ?_ hH ?_
         rotate_left
         ·(intro w hSw; (try dsimp only at hSw); go_simp; try with_reducible rfl)
         try simp only [LY]
         refine U_tt 2 ?_ ?_ hH ?_
         rotate_left
         ·(intro w hSw; (try dsimp only at hSw); go_simp; try with_reducible rfl)
         try simp only [LY]
         refine U_tt 3 ?_ ?_ hH ?_
         rotate_left
         ·(intro w hSw; (try dsimp only at hSw); go_simp; try with_reducible rfl)
         try simp only [LY]
         refine U_tt 4 ?_ ?_ hH ?_
         rotate_left
         ·(intro w hSw; (try dsimp only at hSw); go_simp; try with_reducible rfl)
         try simp only [LY]
         refine U_tt 5 ?_ ?_ hH ?_
         rotate_left
         ·(intro w hSw; (try dsimp only at hSw); go_simp; try with_reducible rfl)
         try simp only [LY]
         refine U_tt 6 ?_ ?_ hH ?_
         rotate_left
         ·(intro w hSw; (try dsimp only at hSw); go_simp; try with_reducible rfl)
         try simp only [LY]
         refine U_tt 7 ?_ ?_ hH ?_
         rotate_left
         ·(intro w hSw; (try dsimp only at hSw); go_simp; try with_reducible rfl)
         try simp only [LY]
         refine U_tt 8 ?_ ?_ hH ?_
         rotate_left
         ·(intro w hSw; (try dsimp only at hSw); go_simp; try with_reducible rfl)
         try simp only [LY]
         refine U_tt 10 ?_ ?_ hH ?_
         rotate_left
         ·(intro w hSw; (try dsimp only at hSw); go_simp; try with_reducible rfl)
         try simp only [LY]
         refine U_tt 11 ?_ ?_ hH ?_
         rotate_left
         ·(intro w hSw; (try dsimp only at hSw); go_simp; try with_reducible rfl)
         try simp only [LY]
         refine U_tt 12 ?_ ?_ hH ?_
         rotate_left
         ·(intro w hSw; (try dsimp only at hSw); go_simp; try with_reducible rfl)
         try simp only [LY]
         refine U_tt 13 ?_ ?_ hH ?_
         rotate_left
         ·(intro w hSw; (try dsimp only at hSw); go_simp; try with_reducible rfl)
         try simp only [LY]
         clear hH
         refine U_one (i := 9) (by kernel_rfl) rfl (fun K hK => ?_)
         go_simp
         (with_reducible refine (rMul he19 he19 (SzQ.fit ((HW.out Kn (by omega) i).1)) (SzQ.fit ((HW.out Kn (by omega) i).1))).mono ?_)
         rintro e w87 ⟨_, rfl, h20, hb⟩
         obtain ⟨sh20, ah20, nh20, ch20, Ah20, Nh20, Ch20, rfl⟩ := h20.shape
         replace hs := bStep hs hb
         replace Blk := Blk.mono hb
         replace B0 := B0.mono hb
         replace h8 := h8.mono hb
         replace he10 := he10.mono hb
         replace h16 := h16.mono hb
         replace he19 := he19.mono hb
         replace he22a := he22a.mono hb
         replace B1 := cellK B1 hb
         replace B2 := cellK B2 hb
         replace B3 := cellK B3 hb
         replace Bd := cellK Bd hb
         replace Be := cellK Be hb
         replace Bf := cellK Bf hb
         replace C1 := cellK C1 hb
         replace C2 := cellK C2 hb
         replace C3 := cellK C3 hb
         clear hb
         try go_wp2_with fail
         refine hK.out _ _ ⟨B1, B2, B3, Bd, Be, Bf, C1, C2, C3⟩ (fun hH => ?_)
         clear hK K
         try simp only [LY]
         clear hH
         refine U_one (i := 14) (by kernel_rfl) rfl (fun K hK => ?_)
         go_simp
         (with_reducible refine (r7_quotient _ _ _ _ _ h20 he22a (SzQ.fit (SzQ.mul ((HW.out Kn (by omega) i).1) ((HW.out Kn (by omega) i).1))) (SzQ.fit (HZ.out i (by omega))) (HPN.out _ (by omega))).mono ?_)
         rintro e w88 ⟨_, rfl, h23, hb⟩
         obtain ⟨sh23, ah23, nh23, ch23, Ah23, Nh23, Ch23, rfl⟩ := h23.shape
         replace hs := bStep hs hb
         replace Blk := Blk.mono hb
         replace B0 := B0.mono hb
         replace h8 := h8.mono hb
         replace he10 := he10.mono hb
         replace h16 := h16.mono hb
         replace he19 := he19.mono hb
         replace he22a := he22a.mono hb
         replace h20 := h20.mono hb
         replace B1 := cellK B1 hb
         replace B2 := cellK B2 hb
         replace B3 := cellK B3 hb
         replace Bd := cellK Bd hb
         replace Be := cellK Be hb
         replace Bf := cellK Bf hb
         replace C1 := cellK C1 hb
         replace C2 := cellK C2 hb
         replace C3 := cellK C3 hb
         clear hb
         try go_wp2_with fail
         refine hK.out _ _ ⟨B1, B2, B3, Bd, Be, Bf, C1, C2, C3⟩ (fun hH => ?_)
         clear hK K
         try simp only [LY]
         clear hH
         refine U_one (i := 15) (by kernel_rfl) rfl (fun K hK => ?_)
         go_simp
         (with_reducible refine (rAdd h16 h23 (SzQ.fit ((HIN.out i (by omega)).mono (show i * 4400 + 1 ≤ 30000 by omega))) (SzQ.fit (SzQ.div (SzQ.mul ((HW.out Kn (by omega) i).1) ((HW.out Kn (by omega) i).1)) (HZ.out i (by omega)) (HPN.out _ (by omega))))).mono ?_)
         rintro e w89 ⟨_, rfl, h24, hb⟩
         obtain ⟨sh24, ah24, nh24, ch24, Ah24, Nh24, Ch24, rfl⟩ := h24.shape
         replace hs := bStep hs hb
         replace Blk := Blk.mono hb
         replace B0 := B0.mono hb
         replace h8 := h8.mono hb
         replace he10 := he10.mono hb
         replace h16 := h16.mono hb
         replace he19 := he19.mono hb
         replace he22a := he22a.mono hb
         replace h20 := h20.mono hb
         replace h23 := h23.mono hb
         replace B1 := cellK B1 hb
         replace B2 := cellK B2 hb
         replace B3 := cellK B3 hb
         replace Bd := cellK Bd hb
         replace Be := cellK Be hb
         replace Bf := cellK Bf hb
         replace C1 := cellK C1 hb
         replace C2 := cellK C2 hb
         replace C3 := cellK C3 hb
         clear hb
         try go_wp2_with fail
         refine hK.out _ _ ⟨B1, B2, B3, Bd, Be, Bf, C1, C2, C3⟩ (fun hH => ?_)
         clear hK K
         try simp only [LY]
         clear hH
         have B1 := B0.a0
         have B2 := B0.a1
         have B3 := B0.a2
         have finside := B0.free
         have Linside := B0.lt
         refine U_last (by kernel_rfl) rfl (by kernel_rfl) (fun K hK => ?_)
         go_simp
         refine hK.out _ _ ?_
         clear hK K
         intro w90 hW
         have hG : Gr [w64.heap.size] w89 w90 := by rw [hW]; exact (Gr.refl _ _).set.set.set
         have hsz := hs.size
         have linside := B0.lt
         have hbw : Below wt.heap.size w89 w90 := hG.below1 hs.size (by first | omega | assumption)
         have hk : KeepD w89 w90 := hG.keep ⟨⟨_, B0.ty, by decide⟩, True.intro⟩
         have Bl1inside : Bx w90 (w64.heap.size) 38 #[.bool sh24, .slice ah24 nh24 ch24, .slice Ah24 Nh24 Ch24] := by rw [hW]; exact B0.set3
         replace hs := hs.trans hbw
         replace Blk := hG.bx Blk (notMem1 (by omega))
         replace B0 := Bl1inside
         clear Bl1inside
         replace h8 := h8.keep hk
         replace he10 := he10.keep hk
         replace h16 := h16.keep hk
         replace he19 := he19.keep hk
         replace he22a := he22a.keep hk
         replace h20 := h20.keep hk
         replace h23 := h23.keep hk
         replace h24 := h24.keep hk
         clear hW hG hk hbw hsz linside
         try simp only [LY]
         clear B1 B2 B3 Bd Be Bf C1 C2 C3
         go_upto_region 42 with fail
         have BI25a : i < n := by omega
         have BI25b : ((i : Int) : Int) < (n : Int) := by omega
         obtain ⟨ge26, ae26, ne26, ce26, Ae26, Ne26, De26, C4, C5, C6, he26, le26⟩ := ownR_at (OwnG.mono RC.kept FVrt.out hs) (show i < (mapL (rgW L Kn).2 n).length by (simp only [List.length_set, mapL_len]; omega))
         rw [mapL_nth (show i < n by omega)] at he26
         have SW28a := IntWalk.i64_in ((i : Int) + 1) (by omega)
         have SW28b : (0 : Int) ≤ (i : Int) + 1 := by omega
         have SW28c : ((i : Int) + 1).toNat = (i + 1) := by omega
         have SW28d : (i : Int) + 1 < (L.length : Int) := by omega
         have BI29a : (i + 1) < L.length := by omega
         have BI29b : ((i : Int) + 1 : Int) < (L.length : Int) := by omega
         obtain ⟨ge30a, ae30a, ne30a, ce30a, Ae30a, Ne30a, De30a, C7, C8, C9, he30a, le30⟩ := rowR_at (HL.out.mono RC.kept (bStep HB0_1.out (bStep HB1_12.out hs))) (show (i + 1) < L.length by omega)
         refine U_region (S := fun w' => w'.cell? ⟨w64.heap.size, 0, none⟩ = some (.bool sh24) ∧ w'.cell? ⟨w64.heap.size, 1, none⟩ = some (.slice ah24 nh24 ch24) ∧ w'.cell? ⟨w64.heap.size, 2, none⟩ = some (.slice Ah24 Nh24 Ch24) ∧ w'.cell? ⟨grt, i * 3, none⟩ = some (.bool ge26) ∧ w'.cell? ⟨grt, i * 3 + 1, none⟩ = some (.slice ae26 ne26 ce26) ∧ w'.cell? ⟨grt, i * 3 + 2, none⟩ = some (.slice Ae26 Ne26 De26) ∧ w'.cell? ⟨rb, ro + (i + 1) * 3, none⟩ = some (.bool ge30a) ∧ w'.cell? ⟨rb, ro + (i + 1) * 3 + 1, none⟩ = some (.slice ae30a ne30a ce30a) ∧ w'.cell? ⟨rb, ro + (i + 1) * 3 + 2, none⟩ = some (.slice Ae30a Ne30a De30a)) (by kernel_rfl) 17 ?_
         refine AnyU.abs ?_
         intro w91 hW
         have hb : Below w90.heap.size w90 w91 := by rw [hW]; exact bDrew _
         replace hs := bStep hs hb
         replace Blk := Blk.mono hb
         replace B0 := B0.mono hb
         replace h8 := h8.mono hb
         replace he10 := he10.mono hb
         replace h16 := h16.mono hb
         replace he19 := he19.mono hb
         replace he22a := he22a.mono hb
         replace h20 := h20.mono hb
         replace h23 := h23.mono hb
         replace h24 := h24.mono hb
         replace he26 := he26.mono hb
         replace he30a := he30a.mono hb
         replace C4 := cellK C4 hb
         replace C5 := cellK C5 hb
         replace C6 := cellK C6 hb
         replace C7 := cellK C7 hb
         replace C8 := cellK C8 hb
         replace C9 := cellK C9 hb
         clear hb hW
         have B1 := B0.a0
         have B2 := B0.a1
         have B3 := B0.a2
         have hH := (show w91.cell? ⟨w64.heap.size, 0, none⟩ = some (.bool sh24) ∧ w91.cell? ⟨w64.heap.size, 1, none⟩ = some (.slice ah24 nh24 ch24) ∧ w91.cell? ⟨w64.heap.size, 2, none⟩ = some (.slice Ah24 Nh24 Ch24) ∧ w91.cell? ⟨grt, i * 3, none⟩ = some (.bool ge26) ∧ w91.cell? ⟨grt, i * 3 + 1, none⟩ = some (.slice ae26 ne26 ce26) ∧ w91.cell? ⟨grt, i * 3 + 2, none⟩ = some (.slice Ae26 Ne26 De26) ∧ w91.cell? ⟨rb, ro + (i + 1) * 3, none⟩ = some (.bool ge30a) ∧ w91.cell? ⟨rb, ro + (i + 1) * 3 + 1, none⟩ = some (.slice ae30a ne30a ce30a) ∧ w91.cell? ⟨rb, ro + (i + 1) * 3 + 2, none⟩ = some (.slice Ae30a Ne30a De30a) from ⟨B1, B2, B3, C4, C5, C6, C7, C8, C9⟩)
         refine U_tt 0 ?_ ?_ hH ?_
         rotate_left
         ·(intro w hSw; (try dsimp only at hSw); go_simp; try with_reducible rfl)
         try simp only [LY]
         refine U_tt 1 ?_ ?_ hH ?_
         rotate_left
         ·(intro w hSw; (try dsimp only at hSw); go_simp; try with_reducible rfl)
         try simp only [LY]
         refine U_tt 2 ?_ ?_ hH ?_
         rotate_left
         ·(intro w hSw; (try dsimp only at hSw); go_simp; try with_reducible rfl)
         try simp only [LY]
         refine U_tt 3 ?_ ?_ hH ?_
         rotate_left
         ·(intro w hSw; (try dsimp only at hSw); go_simp; try with_reducible rfl)
         try simp only [LY]
         refine U_tt 4 ?_ ?_ hH ?_
         rotate_left
         ·(intro w hSw; (try dsimp only at hSw); go_simp; try with_reducible rfl)
         try simp only [LY]
         refine U_tt 5 ?_ ?_ hH ?_
         rotate_left
         ·(intro w hSw; (try dsimp only at hSw); go_simp; try with_reducible rfl)
         try simp only [LY]
         refine U_tt 6 ?_ ?_ hH ?_
         rotate_left
         ·(intro w hSw; (try dsimp only at hSw); go_simp; try with_reducible rfl)
         try simp only [LY]
         refine U_tt 7 ?_ ?_ hH ?_
         rotate_left
         ·(intro w hSw; (try dsimp only at hSw); go_simp; try with_reducible rfl)
         try simp only [LY]
         refine U_tt 8 ?_ ?_ hH ?_
         rotate_left
         ·(intro w hSw; (try dsimp only at hSw); go_simp; try with_reducible rfl)
         try simp only [LY]
         refine U_tt 10 ?_ ?_ hH ?_
         rotate_left
         ·(intro w hSw; (try dsimp only at hSw); go_simp; try with_reducible rfl)
         try simp only [LY]
         refine U_tt 11 ?_ ?_ hH ?_
         rotate_left
         ·(intro w hSw; (try dsimp only at hSw); go_simp; try with_reducible rfl)
         try simp only [LY]
         refine U_tt 12 ?_ ?_ hH ?_
         rotate_left
         ·(intro w hSw; (try dsimp only at hSw); go_simp; try with_reducible rfl)
         try simp only [LY]
         refine U_tt 13 ?_ ?_ hH ?_
         rotate_left
         ·(intro w hSw; (try dsimp only at hSw); go_simp; try with_reducible rfl)
         try simp only [LY]
         refine U_tt 14 ?_ ?_ hH ?_
         rotate_left
         ·(intro w hSw; (try dsimp only at hSw); go_simp; try with_reducible rfl)
         try simp only [LY]
         clear hH
         refine U_one (i := 9) (by kernel_rfl) rfl (fun K hK => ?_)
         go_simp
         (with_reducible refine (rMul he26 he26 (SzQ.fit ((HW.out Kn (by omega) i).2)) (SzQ.fit ((HW.out Kn (by omega) i).2))).mono ?_)
         rintro e w92 ⟨_, rfl, h27, hb⟩
         obtain ⟨sh27, ah27, nh27, ch27, Ah27, Nh27, Ch27, rfl⟩ := h27.shape
         replace hs := bStep hs hb
         replace Blk := Blk.mono hb
         replace B0 := B0.mono hb
         replace h8 := h8.mono hb
         replace he10 := he10.mono hb
         replace h16 := h16.mono hb
         replace he19 := he19.mono hb
         replace he22a := he22a.mono hb
         replace h20 := h20.mono hb
         replace h23 := h23.mono hb
         replace h24 := h24.mono hb
         replace he26 := he26.mono hb
         replace he30a := he30a.mono hb
         replace B1 := cellK B1 hb
         replace B2 := cellK B2 hb
         replace B3 := cellK B3 hb
         replace C4 := cellK C4 hb
         replace C5 := cellK C5 hb
         replace C6 := cellK C6 hb
         replace C7 := cellK C7 hb
         replace C8 := cellK C8 hb
         replace C9 := cellK C9 hb
         clear hb
         try go_wp2_with fail
         refine hK.out _ _ ⟨B1, B2, B3, C4, C5, C6, C7, C8, C9⟩ (fun hH => ?_)
         clear hK K
         try simp only [LY]
         clear hH
         refine U_one (i := 15) (by kernel_rfl) rfl (fun K hK => ?_)
         go_simp
         (with_reducible refine (r7_quotient _ _ _ _ _ h27 he30a (SzQ.fit (SzQ.mul ((HW.out Kn (by omega) i).2) ((HW.out Kn (by omega) i).2))) (SzQ.fit (HZ.out (i + 1) (by omega))) (HPN.out _ (by omega))).mono ?_)
         rintro e w93 ⟨_, rfl, h31, hb⟩
         obtain ⟨sh31, ah31, nh31, ch31, Ah31, Nh31, Ch31, rfl⟩ := h31.shape
         replace hs := bStep hs hb
         replace Blk := Blk.mono hb
         replace B0 := B0.mono hb
         replace h8 := h8.mono hb
         replace he10 := he10.mono hb
         replace h16 := h16.mono hb
         replace he19 := he19.mono hb
         replace he22a := he22a.mono hb
         replace h20 := h20.mono hb
         replace h23 := h23.mono hb
         replace h24 := h24.mono hb
         replace he26 := he26.mono hb
         replace he30a := he30a.mono hb
         replace h27 := h27.mono hb
         replace B1 := cellK B1 hb
         replace B2 := cellK B2 hb
         replace B3 := cellK B3 hb
         replace C4 := cellK C4 hb
         replace C5 := cellK C5 hb
         replace C6 := cellK C6 hb
         replace C7 := cellK C7 hb
         replace C8 := cellK C8 hb
         replace C9 := cellK C9 hb
         clear hb
         try go_wp2_with fail
         refine hK.out _ _ ⟨B1, B2, B3, C4, C5, C6, C7, C8, C9⟩ (fun hH => ?_)
         clear hK K
         try simp only [LY]
         clear hH
         refine U_one (i := 16) (by kernel_rfl) rfl (fun K hK => ?_)
         go_simp
         (with_reducible refine (rAdd h24 h31 (SzQ.fit (SzQ.add ((HIN.out i (by omega)).mono (show i * 4400 + 1 ≤ 30000 by omega)) (SzQ.div (SzQ.mul ((HW.out Kn (by omega) i).1) ((HW.out Kn (by omega) i).1)) (HZ.out i (by omega)) (HPN.out _ (by omega))))) (SzQ.fit (SzQ.div (SzQ.mul ((HW.out Kn (by omega) i).2) ((HW.out Kn (by omega) i).2)) (HZ.out (i + 1) (by omega)) (HPN.out _ (by omega))))).mono ?_)
         rintro e w94 ⟨_, rfl, h32, hb⟩
         obtain ⟨sh32, ah32, nh32, ch32, Ah32, Nh32, Ch32, rfl⟩ := h32.shape
         replace hs := bStep hs hb
         replace Blk := Blk.mono hb
         replace B0 := B0.mono hb
         replace h8 := h8.mono hb
         replace he10 := he10.mono hb
         replace h16 := h16.mono hb
         replace he19 := he19.mono hb
         replace he22a := he22a.mono hb
         replace h20 := h20.mono hb
         replace h23 := h23.mono hb
         replace h24 := h24.mono hb
         replace he26 := he26.mono hb
         replace he30a := he30a.mono hb
         replace h27 := h27.mono hb
         replace h31 := h31.mono hb
         replace B1 := cellK B1 hb
         replace B2 := cellK B2 hb
         replace B3 := cellK B3 hb
         replace C4 := cellK C4 hb
         replace C5 := cellK C5 hb
         replace C6 := cellK C6 hb
         replace C7 := cellK C7 hb
         replace C8 := cellK C8 hb
         replace C9 := cellK C9 hb
         clear hb
         try go_wp2_with fail
         refine hK.out _ _ ⟨B1, B2, B3, C4, C5, C6, C7, C8, C9⟩ (fun hH => ?_)
         clear hK K
         try simp only [LY]
         clear hH
         have B1 := B0.a0
         have B2 := B0.a1
         have B3 := B0.a2
         have finside := B0.free
         have Linside := B0.lt
         refine U_last (by kernel_rfl) rfl (by kernel_rfl) (fun K hK => ?_)
         go_simp
         refine hK.out _ _ ?_
         clear hK K
         intro w95 hW
         have hG : Gr [w64.heap.size] w94 w95 := by rw [hW]; exact (Gr.refl _ _).set.set.set
         have hsz := hs.size
         have linside := B0.lt
         have hbw : Below wt.heap.size w94 w95 := hG.below1 hs.size (by first | omega | assumption)
         have hk : KeepD w94 w95 := hG.keep ⟨⟨_, B0.ty, by decide⟩, True.intro⟩
         have Bl1inside : Bx w95 (w64.heap.size) 38 #[.bool sh32, .slice ah32 nh32 ch32, .slice Ah32 Nh32 Ch32] := by rw [hW]; exact B0.set3
         replace hs := hs.trans hbw
         replace Blk := hG.bx Blk (notMem1 (by omega))
         replace B0 := Bl1inside
         clear Bl1inside
         replace h8 := h8.keep hk
         replace he10 := he10.keep hk
         replace h16 := h16.keep hk
         replace he19 := he19.keep hk
         replace he22a := he22a.keep hk
         replace h20 := h20.keep hk
         replace h23 := h23.keep hk
         replace h24 := h24.keep hk
         replace he26 := he26.keep hk
         replace he30a := he30a.keep hk
         replace h27 := h27.keep hk
         replace h31 := h31.keep hk
         replace h32 := h32.keep hk
         clear hW hG hk hbw hsz linside
         try simp only [LY]
         clear B1 B2 B3 C4 C5 C6 C7 C8 C9
         go_wp2
         go_roundw
         case rel => exact ⟨i + 1, by omega, by go_num, hs, Blk, h8, he10, ⟨_, _, _, _, _, _, _, B0, (h32.of_eq rfl)⟩⟩
         all_goals first | (simp [intOf]; done) | (simp [intOf]; omega)
        ·have q17d : ((i : Int) < (n : Int)) = False := eq_false (by omega)
         obtain rfl : n = i := by omega
         go_upto_region 43 with fail
         have Obk := FObk.out.mono RC.kept hs
         have Oth := FOth.out.mono RC.kept hs
         have Vlf := OwnG.mono RC.kept FVlf.out hs
         have Vrt := OwnG.mono RC.kept FVrt.out hs
         replace hs := bStep HB1_12.out hs
         replace hs := bStep HB0_1.out hs
         have Ap_bk_k := Obk.apLow lw0
         have Ap_th_k := Oth.apLow lw0
         clear Vlf Vrt
         go_upto_region 43 with fail
         have BI18a : 0 < L.length := by omega
         have BI18b : (0 : Int) < (L.length : Int) := by omega
         obtain ⟨ge19a, ae19a, ne19a, ce19a, Ae19a, Ne19a, De19a, Bd, Be, Bf, he19a, le19⟩ := rowR_at (HL.out.mono RC.kept hs) (show 0 < L.length by omega)
         simp only [Nat.zero_mul, Nat.add_zero] at Bd Be Bf
         refine U_region (S := fun w' => w'.cell? ⟨w64.heap.size, 0, none⟩ = some (.bool sh16) ∧ w'.cell? ⟨w64.heap.size, 1, none⟩ = some (.slice ah16 nh16 ch16) ∧ w'.cell? ⟨w64.heap.size, 2, none⟩ = some (.slice Ah16 Nh16 Ch16) ∧ w'.cell? ⟨rb, ro, none⟩ = some (.bool ge19a) ∧ w'.cell? ⟨rb, ro + 1, none⟩ = some (.slice ae19a ne19a ce19a) ∧ w'.cell? ⟨rb, ro + 2, none⟩ = some (.slice Ae19a Ne19a De19a)) (by kernel_rfl) 10 ?_
         refine AnyU.abs ?_
         intro w86 hW
         have hb : Below wi.heap.size wi w86 := by rw [hW]; exact bDrew _
         replace hs := bStep hs hb
         replace Blk := Blk.mono hb
         replace B0 := B0.mono hb
         replace h8 := h8.mono hb
         replace he10 := he10.mono hb
         replace h16 := h16.mono hb
         replace he19a := he19a.mono hb
         replace Obk := Obk.mono RC.kept hb
         replace Oth := Oth.mono RC.kept hb
         replace Bd := cellK Bd hb
         replace Be := cellK Be hb
         replace Bf := cellK Bf hb
         clear hb hW
         have B1 := B0.a0
         have B2 := B0.a1
         have B3 := B0.a2
         have hH := (show w86.cell? ⟨w64.heap.size, 0, none⟩ = some (.bool sh16) ∧ w86.cell? ⟨w64.heap.size, 1, none⟩ = some (.slice ah16 nh16 ch16) ∧ w86.cell? ⟨w64.heap.size, 2, none⟩ = some (.slice Ah16 Nh16 Ch16) ∧ w86.cell? ⟨rb, ro, none⟩ = some (.bool ge19a) ∧ w86.cell? ⟨rb, ro + 1, none⟩ = some (.slice ae19a ne19a ce19a) ∧ w86.cell? ⟨rb, ro + 2, none⟩ = some (.slice Ae19a Ne19a De19a) from ⟨B1, B2, B3, Bd, Be, Bf⟩)
         refine U_tt 0 ?_ ?_ hH ?_
         rotate_left
         ·(intro w hSw; (try dsimp only at hSw); go_simp; try with_reducible rfl)
         try simp only [LY]
         refine U_tt 1 ?_ ?_ hH ?_
         rotate_left
         ·(intro w hSw; (try dsimp only at hSw); go_simp; try with_reducible rfl)
         try simp only [LY]
         refine U_tt 2 ?_ ?_ hH ?_
         rotate_left
         ·(intro w hSw; (try dsimp only at hSw); go_simp; try with_reducible rfl)
         try simp only [LY]
         refine U_tt 3 ?_ ?_ hH ?_
         rotate_left
         ·(intro w hSw; (try dsimp only at hSw); go_simp; try with_reducible rfl)
         try simp only [LY]
         refine U_tt 4 ?_ ?_ hH ?_
         rotate_left
         ·(intro w hSw; (try dsimp only at hSw); go_simp; try with_reducible rfl)
         try simp only [LY]
         refine U_tt 5 ?_ ?_ hH ?_
         rotate_left
         ·(intro w hSw; (try dsimp only at hSw); go_simp; try with_reducible rfl)
         try simp only [LY]
         clear hH
         refine U_one (i := 6) (by kernel_rfl) rfl (fun K hK => ?_)
         go_simp
         (with_reducible refine (rMul he19a h16 (SzQ.fit (HZ.out 0 (by omega))) (SzQ.fit ((HIN.out n (by omega)).mono (show n * 4400 + 1 ≤ 30000 by omega)))).mono ?_)
         rintro e w87 ⟨_, rfl, h20, hb⟩
         obtain ⟨sh20, ah20, nh20, ch20, Ah20, Nh20, Ch20, rfl⟩ := h20.shape
         replace hs := bStep hs hb
         replace Blk := Blk.mono hb
         replace B0 := B0.mono hb
         replace h8 := h8.mono hb
         replace he10 := he10.mono hb
         replace h16 := h16.mono hb
         replace he19a := he19a.mono hb
         replace Obk := Obk.mono RC.kept hb
         replace Oth := Oth.mono RC.kept hb
         replace B1 := cellK B1 hb
         replace B2 := cellK B2 hb
         replace B3 := cellK B3 hb
         replace Bd := cellK Bd hb
         replace Be := cellK Be hb
         replace Bf := cellK Bf hb
         clear hb
         try go_wp2_with fail
         refine hK.out _ _ ⟨B1, B2, B3, Bd, Be, Bf⟩ (fun hH => ?_)
         clear hK K
         try simp only [LY]
         refine U_tt 7 ?_ ?_ hH ?_
         rotate_left
         ·(intro w hSw; (try dsimp only at hSw); go_simp; try with_reducible rfl)
         try simp only [LY]
         refine U_tt 8 ?_ ?_ hH ?_
         rotate_left
         ·(intro w hSw; (try dsimp only at hSw); go_simp; try with_reducible rfl)
         try simp only [LY]
         clear hH
         have Ch := Blk.a0
         have Ci := Blk.a1
         have Cj := Blk.a2
         have fk := Blk.free
         have Lk := Blk.lt
         refine U_one (i := 9) (by kernel_rfl) rfl (fun K hK => ?_)
         go_simp
         generalize hW_ : (((w87.setCell ⟨w.heap.size, 0, none⟩ (.bool sh20)).setCell ⟨w.heap.size, 1, none⟩ (.slice ah20 nh20 ch20)).setCell ⟨w.heap.size, 2, none⟩ (.slice Ah20 Nh20 Ch20)) = w88
         have hW := hW_.symm
         clear hW_
         have hG : Gr [w.heap.size] w87 w88 := by rw [hW]; exact (Gr.refl _ _).set.set.set
         have hsz := hs.size
         have lk := Blk.lt
         have hbw : Below w.heap.size w87 w88 := hG.below1 hs.size (by first | omega | assumption)
         have hk : KeepD w87 w88 := hG.keep ⟨⟨_, Blk.ty, by decide⟩, True.intro⟩
         have Bl1k : Bx w88 (w.heap.size) 38 #[.bool sh20, .slice ah20 nh20 ch20, .slice Ah20 Nh20 Ch20] := by rw [hW]; exact Blk.set3
         replace hs := hs.trans hbw
         replace B0 := hG.bx B0 (notMem1 (by omega))
         replace Blk := Bl1k
         clear Bl1k
         replace h8 := h8.keep hk
         replace he10 := he10.keep hk
         replace h16 := h16.keep hk
         replace he19a := he19a.keep hk
         replace h20 := h20.keep hk
         replace B1 := hG.cell B1 (notMem1 (by dsimp only; omega))
         replace B2 := hG.cell B2 (notMem1 (by dsimp only; omega))
         replace B3 := hG.cell B3 (notMem1 (by dsimp only; omega))
         replace Bd := hG.cell Bd (notMem1 (by dsimp only; omega))
         replace Be := hG.cell Be (notMem1 (by dsimp only; omega))
         replace Bf := hG.cell Bf (notMem1 (by dsimp only; omega))
         replace Obk := Obk.gr RC.kept hG (Ap_bk_k).one hk
         replace Oth := Oth.gr RC.kept hG (Ap_th_k).one hk
         clear hW hG hk hbw hsz lk
         refine hK.out _ _ ⟨B1, B2, B3, Bd, Be, Bf⟩ (fun hH => ?_)
         clear hK K
         try simp only [LY]
         clear hH
         refine U_last (by kernel_rfl) rfl (by kernel_rfl) (fun K hK => ?_)
         go_simp
         refine hK.out _ _ ?_
         clear hK K
         intro wl hW
         rw [hW]
         clear hW wl
         try simp only [LY]
         clear B1 B2 B3 Bd Be Bf
         go_wp2
         have Ch := Blk.a0
         have Ci := Blk.a1
         have Cj := Blk.a2
         exact bodyPost_ret (v := .tuple #[u13, u14, .agg #[.bool sh20, .slice ah20 nh20 ch20, .slice Ah20 Nh20 Ch20], .int .i64 0]) (by simp [results, Tryz.results11, go_sem, Ch, Ci, Cj]) rfl ⟨_, _, _, _, rfl, Obk.rows, Oth.rows, h20.of_eq (by unfold rgIns; rw [show L.length - 1 = n by omega, Rat.mul_comm]), rfl, hs⟩
end Go.Proofs.YtkfekkhhfpkfaaaGreat
