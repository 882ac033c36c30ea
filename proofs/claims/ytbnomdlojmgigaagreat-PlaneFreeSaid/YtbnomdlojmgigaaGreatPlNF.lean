/-
  plane: when a step runs into an obstacle.
-/
import Derived.Test.YtbnomdlojmgigaaGreatPlMF
set_option linter.unusedSimpArgs false
set_option linter.unusedVariables false
set_option maxRecDepth 100000
set_option maxHeartbeats 16000000
namespace Go.Proofs.YtbnomdlojmgigaaGreat
open Go.RowKit Dg
attribute [local go_sem ↓] Go.wp_at_zero Go.wp_at_succ
theorem meetP {P : World → Prop} {W : World} (h : ∀ w', w' = W → P w') : P W := h W rfl
def twL (a d lo hi : Int) : Rat := if d = 0 then 0 else tmL a d lo hi
def twH (a d lo hi : Int) : Rat := if d = 0 then 0 else tmH a d lo hi
def twA (a d lo hi : Int) : Bool := decide (d = 0) && (decide (lo < a) && decide (a < hi))
def twN (a d lo hi : Int) : Bool := decide (d = 0) && !(decide (lo < a) && decide (a < hi))
def WV (w : World) (v : Value) (L H : Rat) (al no : Bool) : Prop := ∃ s a n c A N C s' a' n' c' A' N' C', v = .agg #[.bool s, .slice a n c, .slice A N C, .bool s', .slice a' n' c', .slice A' N' C', .bool al, .bool no] ∧ PV w (.agg #[.bool s, .slice a n c, .slice A N C]) L ∧ PV w (.agg #[.bool s', .slice a' n' c', .slice A' N' C']) H
theorem tw_0 {a d lo hi : Int} (h : d = 0) : twL a d lo hi = 0 ∧ twH a d lo hi = 0 := ⟨if_pos h, if_pos h⟩
theorem tw_0t {a d lo hi : Int} (h : d = 0) (h1 : lo < a) (h2 : a < hi) : twA a d lo hi = true ∧ twN a d lo hi = false := by unfold twA twN; simp [h, h1, h2]
theorem tw_0f {a d lo hi : Int} (h : d = 0) (h1 : ¬ (lo < a ∧ a < hi)) : twA a d lo hi = false ∧ twN a d lo hi = true := by unfold twA twN; simp [h]; omega
theorem tw_1 {a d lo hi : Int} (h : ¬ d = 0) : twA a d lo hi = false ∧ twN a d lo hi = false := by unfold twA twN; simp [h]
theorem tw_n {a d lo hi : Int} (h : ¬ d = 0) (k : d < 0) : twL a d lo hi = ((hi - a : Int) : Rat) / ((d : Int) : Rat) ∧ twH a d lo hi = ((lo - a : Int) : Rat) / ((d : Int) : Rat) := by exact ⟨(if_neg h).trans ((if_neg h).trans (if_pos k)), (if_neg h).trans ((if_neg h).trans (if_pos k))⟩
theorem tw_p {a d lo hi : Int} (h : ¬ d = 0) (k : ¬ d < 0) : twL a d lo hi = ((lo - a : Int) : Rat) / ((d : Int) : Rat) ∧ twH a d lo hi = ((hi - a : Int) : Rat) / ((d : Int) : Rat) := by exact ⟨(if_neg h).trans ((if_neg h).trans (if_neg k)), (if_neg h).trans ((if_neg h).trans (if_neg k))⟩
theorem tms_sz {a d lo hi : Int} (ha : Wn 16777216 a) (hd : Wn 16777216 d) (hl : Wn 16777216 lo) (hh : Wn 16777216 hi) : SzQ 4 (twL a d lo hi) ∧ SzQ 4 (twH a d lo hi) := by
 by_cases h : d = 0
 ·rw [(tw_0 h).1, (tw_0 h).2]; exact ⟨szQ_zero.mono (by decide), szQ_zero.mono (by decide)⟩
 have h1 := szD (((hl.sub ha)).mono (by decide)) (hd.mono (by decide)) h
 have h2 := szD (((hh.sub ha)).mono (by decide)) (hd.mono (by decide)) h
 by_cases k : d < 0
 ·rw [(tw_n h k).1, (tw_n h k).2]; exact ⟨h2, h1⟩
 rw [(tw_p h k).1, (tw_p h k).2]; exact ⟨h1, h2⟩
def hf1 (al : Bool) (L f : Rat) : Rat := if al = true then f else mxR f L
def hg1 (al : Bool) (H t : Rat) : Rat := if al = true then t else mnR t H
def hfL (al1 al2 : Bool) (L1 L2 : Rat) : Nat → Rat
 | 0 => ((-1 : Int) : Rat)
 | 1 => hf1 al1 L1 ((-1 : Int) : Rat)
 | _ => hf1 al2 L2 (hf1 al1 L1 ((-1 : Int) : Rat))
def hgH (al1 al2 : Bool) (H1 H2 : Rat) : Nat → Rat
 | 0 => ((2 : Int) : Rat)
 | 1 => hg1 al1 H1 ((2 : Int) : Rat)
 | _ => hg1 al2 H2 (hg1 al1 H1 ((2 : Int) : Rat))
theorem mx_sz {K : Nat} {x y : Rat} (hx : SzQ K x) (hy : SzQ K y) : SzQ K (mxR x y) := by unfold mxR; split <;> assumption
theorem mn_sz {K : Nat} {x y : Rat} (hx : SzQ K x) (hy : SzQ K y) : SzQ K (mnR x y) := by unfold mnR; split <;> assumption
theorem hf1_sz {K : Nat} {al : Bool} {x y : Rat} (hx : SzQ K x) (hy : SzQ K y) : SzQ K (hf1 al x y) := by unfold hf1; split; exact hy; exact mx_sz hy hx
theorem hg1_sz {K : Nat} {al : Bool} {x y : Rat} (hx : SzQ K x) (hy : SzQ K y) : SzQ K (hg1 al x y) := by unfold hg1; split; exact hy; exact mn_sz hy hx
theorem hfL_sz {al1 al2 : Bool} {L1 L2 : Rat} (h1 : SzQ 4 L1) (h2 : SzQ 4 L2) : ∀ k, SzQ 4 (hfL al1 al2 L1 L2 k)
 | 0 => (szQ_int (n := -1) (by decide)).mono (by decide)
 | 1 => hf1_sz h1 ((szQ_int (n := -1) (by decide)).mono (by decide))
 | _ + 2 => hf1_sz h2 (hf1_sz h1 ((szQ_int (n := -1) (by decide)).mono (by decide)))
theorem hgH_sz {al1 al2 : Bool} {L1 L2 : Rat} (h1 : SzQ 4 L1) (h2 : SzQ 4 L2) : ∀ k, SzQ 4 (hgH al1 al2 L1 L2 k)
 | 0 => (szQ_int (n := 2) (by decide)).mono (by decide)
 | 1 => hg1_sz h1 ((szQ_int (n := 2) (by decide)).mono (by decide))
 | _ + 2 => hg1_sz h2 (hg1_sz h1 ((szQ_int (n := 2) (by decide)).mono (by decide)))
theorem hf_no {a d lo hi : Int} {f : Rat} (hf : -1 ≤ f) (hn : twN a d lo hi = false) : hf1 (twA a d lo hi) (twL a d lo hi) f = mxR f (tmL a d lo hi) ∧ tmB a d lo hi = true := by
 unfold hf1 twA twL tmB
 unfold twN at hn
 by_cases h : d = 0
 ·simp [h] at hn
  simp [h, hn]
  unfold tmL mxR
  rw [if_pos rfl]
  split <;> grind
 simp [h]
theorem hg_no {a d lo hi : Int} {f : Rat} (hf : f ≤ 2) (hn : twN a d lo hi = false) : hg1 (twA a d lo hi) (twH a d lo hi) f = mnR f (tmH a d lo hi) := by
 unfold hg1 twA twH
 unfold twN at hn
 by_cases h : d = 0
 ·simp [h] at hn
  simp [h, hn]
  unfold tmH mnR
  rw [if_pos rfl]
  split <;> grind
 simp [h]
theorem tm_no {a d lo hi : Int} (hn : twN a d lo hi = true) : tmB a d lo hi = false := by
 unfold twN at hn; unfold tmB
 simp only [Bool.and_eq_true, decide_eq_true_eq, Bool.not_eq_true'] at hn
 simp [hn.1, hn.2]
theorem ht_no1 {a b p q : Pt} {w h : Int} (hn : twN a.1 (b.1 - a.1) (p.1 - w) (q.1 + w) = true) : hitB a b w h (p, q) = false := by
 unfold hitB; rw [tm_no hn]; rfl
theorem ht_no2 {a b p q : Pt} {w h : Int} (hn : twN a.2 (b.2 - a.2) (p.2 - h) (q.2 + h) = true) : hitB a b w h (p, q) = false := by
 unfold hitB; rw [tm_no (a := a.2) hn]; simp
theorem mx_lt {x y z : Rat} : mxR x y < z ↔ x < z ∧ y < z := by unfold mxR; split <;> constructor <;> (intro h; (try constructor)) <;> grind
theorem lt_mn {x y z : Rat} : z < mnR x y ↔ z < x ∧ z < y := by unfold mnR; split <;> constructor <;> (intro h; (try constructor)) <;> grind
theorem ht_fin {a b p q : Pt} {w h : Int} (h1 : twN a.1 (b.1 - a.1) (p.1 - w) (q.1 + w) = false) (h2 : twN a.2 (b.2 - a.2) (p.2 - h) (q.2 + h) = false) {F T : Rat}
  (hF : F = hfL (twA a.1 (b.1 - a.1) (p.1 - w) (q.1 + w)) (twA a.2 (b.2 - a.2) (p.2 - h) (q.2 + h)) (twL a.1 (b.1 - a.1) (p.1 - w) (q.1 + w)) (twL a.2 (b.2 - a.2) (p.2 - h) (q.2 + h)) 2)
  (hT : T = hgH (twA a.1 (b.1 - a.1) (p.1 - w) (q.1 + w)) (twA a.2 (b.2 - a.2) (p.2 - h) (q.2 + h)) (twH a.1 (b.1 - a.1) (p.1 - w) (q.1 + w)) (twH a.2 (b.2 - a.2) (p.2 - h) (q.2 + h)) 2) :
  hitB a b w h (p, q) = true ↔ (F < T ∧ F < 1 ∧ 0 < T) := by
 have e1 := hf_no (f := ((-1 : Int) : Rat)) (by decide) h1
 have g1 := hg_no (f := ((2 : Int) : Rat)) (by decide) h1
 have b1 : (-1 : Rat) ≤ mxR ((-1 : Int) : Rat) (tmL a.1 (b.1 - a.1) (p.1 - w) (q.1 + w)) := by unfold mxR; split <;> grind
 have b2 : mnR ((2 : Int) : Rat) (tmH a.1 (b.1 - a.1) (p.1 - w) (q.1 + w)) ≤ (2 : Rat) := by unfold mnR; split <;> grind
 have e2 := hf_no (f := mxR ((-1 : Int) : Rat) (tmL a.1 (b.1 - a.1) (p.1 - w) (q.1 + w))) b1 h2
 have g2 := hg_no (f := mnR ((2 : Int) : Rat) (tmH a.1 (b.1 - a.1) (p.1 - w) (q.1 + w))) b2 h2
 rw [show F = mxR (mxR ((-1 : Int) : Rat) (tmL a.1 (b.1 - a.1) (p.1 - w) (q.1 + w))) (tmL a.2 (b.2 - a.2) (p.2 - h) (q.2 + h)) from by rw [hF]; show hf1 _ _ (hf1 _ _ _) = _; rw [e1.1, e2.1],
  show T = mnR (mnR ((2 : Int) : Rat) (tmH a.1 (b.1 - a.1) (p.1 - w) (q.1 + w))) (tmH a.2 (b.2 - a.2) (p.2 - h) (q.2 + h)) from by rw [hT]; show hg1 _ _ (hg1 _ _ _) = _; rw [g1, g2],
  hit_iff]
 show _ ∧ _ ∧ (mxR _ _ < mnR _ _ ∧ mxR _ _ < 1 ∧ 0 < mnR _ _) ↔ _
 simp only [e1.2, e2.2, mx_lt, lt_mn, true_and]
 constructor <;> intro h <;> grind
theorem pl_times (a d lo hi : Int) (w : World) (ha : Wn 16777216 a) (hd : Wn 16777216 d) (hlo : Wn 16777216 lo) (hhi : Wn 16777216 hi) {al no : Bool} {L H : Rat} (hal : al = twA a d lo hi) (hno : no = twN a d lo hi) (hL : L = twL a d lo hi) (hH : H = twH a d lo hi) :
  Calls Tryz.prog 73 #[.int .i64 a, .int .i64 d, .int .i64 lo, .int .i64 hi] w (Ret1 (fun w v => WV w v L H al no) w) := by
 have hs := Below.refl w.heap.size w
 have HA := Lib.hid hal
 have HN := Lib.hid hno
 have Jm := Lib.hid hL
 have Jl := Lib.hid hH
 clear hal hno hL hH
 go_enter Tryz.func73, Tryz.ntmps73
 by_cases q1 : d = 0
 ·have q1b : (d == 0) = true := beq_iff_eq.2 (by omega)
  have q1n : (d != 0) = false := bne_eq_false_iff_eq.2 (by omega)
  have Co := Lib.hid q1
  clear q1
  by_cases q2 : lo < a
  ·have q2d : (lo < a) = True := eq_true (by omega)
   by_cases q3 : a < hi
   ·have q3d : (a < hi) = True := eq_true (by omega)
    have J6 := Lib.hid (tw_0t (a := a) (d := d) (lo := lo) (hi := hi) Co.out (by omega) (by omega))
    go_wp2
    refine bodyPost.abs ?_
    intro w1 hW
    have hG : Gr [] w w1 := by rw [hW]; exact (Gr.refl _ _).alloc
    have J8 := hs.size
    have Blk : Bx w1 (w.heap.size) 99 #[.bool false, .slice none 0 0, .slice none 0 0, .bool false, .slice none 0 0, .slice none 0 0, .bool true, .bool false] := by rw [hW]; exact (Bx.new0 _ _ _)
    replace hs := hs.trans (hG.below0 hs.size)
    clear hW hG
    have J7 := Blk.lt
    have Cs := Blk.a0
    have Ct := Blk.a1
    have Cu := Blk.a2
    have Cv := Blk.a3
    have Cw := Blk.a4
    have Cx := Blk.a5
    have Cy := Blk.a6
    have Cz := Blk.a7
    exact bodyPost_ret (v := .agg #[.bool false, .slice none 0 0, .slice none 0 0, .bool false, .slice none 0 0, .slice none 0 0, .bool true, .bool false]) (by simp [results, Tryz.results73, go_sem, Cs, Ct, Cu, Cv, Cw, Cx, Cy, Cz]) rfl ⟨_, rfl, ⟨_, _, _, _, _, _, _, _, _, _, _, _, _, _, (by rw [HA.out, HN.out, J6.out.1, J6.out.2] <;> rfl), (PV.zero _).of_eq ((tw_0 Co.out).1.symm.trans Jm.out.symm), (PV.zero _).of_eq ((tw_0 Co.out).2.symm.trans Jl.out.symm)⟩, hs⟩
   have q3d : (a < hi) = False := eq_false (by omega)
   have J6 := Lib.hid (tw_0f (a := a) (d := d) (lo := lo) (hi := hi) Co.out (by omega))
   go_wp2
   refine bodyPost.abs ?_
   intro w1 hW
   have hG : Gr [] w w1 := by rw [hW]; exact (Gr.refl _ _).alloc
   have J8 := hs.size
   have Blk : Bx w1 (w.heap.size) 99 #[.bool false, .slice none 0 0, .slice none 0 0, .bool false, .slice none 0 0, .slice none 0 0, .bool false, .bool true] := by rw [hW]; exact (Bx.new0 _ _ _)
   replace hs := hs.trans (hG.below0 hs.size)
   clear hW hG
   have J7 := Blk.lt
   have Cs := Blk.a0
   have Ct := Blk.a1
   have Cu := Blk.a2
   have Cv := Blk.a3
   have Cw := Blk.a4
   have Cx := Blk.a5
   have Cy := Blk.a6
   have Cz := Blk.a7
   exact bodyPost_ret (v := .agg #[.bool false, .slice none 0 0, .slice none 0 0, .bool false, .slice none 0 0, .slice none 0 0, .bool false, .bool true]) (by simp [results, Tryz.results73, go_sem, Cs, Ct, Cu, Cv, Cw, Cx, Cy, Cz]) rfl ⟨_, rfl, ⟨_, _, _, _, _, _, _, _, _, _, _, _, _, _, (by rw [HA.out, HN.out, J6.out.1, J6.out.2] <;> rfl), (PV.zero _).of_eq ((tw_0 Co.out).1.symm.trans Jm.out.symm), (PV.zero _).of_eq ((tw_0 Co.out).2.symm.trans Jl.out.symm)⟩, hs⟩
  have q2d : (lo < a) = False := eq_false (by omega)
  have J6 := Lib.hid (tw_0f (a := a) (d := d) (lo := lo) (hi := hi) Co.out (by omega))
  go_wp2
  refine bodyPost.abs ?_
  intro w1 hW
  have hG : Gr [] w w1 := by rw [hW]; exact (Gr.refl _ _).alloc
  have J8 := hs.size
  have Blk : Bx w1 (w.heap.size) 99 #[.bool false, .slice none 0 0, .slice none 0 0, .bool false, .slice none 0 0, .slice none 0 0, .bool false, .bool true] := by rw [hW]; exact (Bx.new0 _ _ _)
  replace hs := hs.trans (hG.below0 hs.size)
  clear hW hG
  have J7 := Blk.lt
  have Cs := Blk.a0
  have Ct := Blk.a1
  have Cu := Blk.a2
  have Cv := Blk.a3
  have Cw := Blk.a4
  have Cx := Blk.a5
  have Cy := Blk.a6
  have Cz := Blk.a7
  exact bodyPost_ret (v := .agg #[.bool false, .slice none 0 0, .slice none 0 0, .bool false, .slice none 0 0, .slice none 0 0, .bool false, .bool true]) (by simp [results, Tryz.results73, go_sem, Cs, Ct, Cu, Cv, Cw, Cx, Cy, Cz]) rfl ⟨_, rfl, ⟨_, _, _, _, _, _, _, _, _, _, _, _, _, _, (by rw [HA.out, HN.out, J6.out.1, J6.out.2] <;> rfl), (PV.zero _).of_eq ((tw_0 Co.out).1.symm.trans Jm.out.symm), (PV.zero _).of_eq ((tw_0 Co.out).2.symm.trans Jl.out.symm)⟩, hs⟩
 have q1b : (d == 0) = false := beq_eq_false_iff_ne.2 (by omega)
 have q1n : (d != 0) = true := bne_iff_ne.2 (by omega)
 have Co := Lib.hid q1
 clear q1
 have AX2 : IntKind.i64.wrap (lo - a) = lo - a := Wn.wsub hlo ha (by decide)
 go_wp2_with fail
 refine Calls.abs ?_
 intro w1 hW
 have hG : Gr [] w w1 := by rw [hW]; exact (Gr.refl _ _).alloc
 have J8 := hs.size
 have Blk : Bx w1 (w.heap.size) 99 #[.bool false, .slice none 0 0, .slice none 0 0, .bool false, .slice none 0 0, .slice none 0 0, .bool false, .bool false] := by rw [hW]; exact (Bx.new0 _ _ _)
 replace hs := hs.trans (hG.below0 hs.size)
 clear hW hG
 have J7 := Blk.lt
 with_reducible refine (pl_over (lo - a) d _ ((Wn.sub hlo ha).mono (by decide)) (hd.mono (by decide)) Co.out).mono ?_
 rintro e w2 ⟨_, rfl, h3, hb⟩
 obtain ⟨Ep, Ej, En, El, Ed, Eh, Ef, rfl⟩ := h3.shape
 revert Blk; refine mS hs hb ?_; clear hs hb; intro hs Blk
 have AX4 : IntKind.i64.wrap (hi - a) = hi - a := Wn.wsub hhi ha (by decide)
 go_wp2_with fail
 with_reducible refine (pl_over (hi - a) d _ ((Wn.sub hhi ha).mono (by decide)) (hd.mono (by decide)) Co.out).mono ?_
 rintro e w3 ⟨_, rfl, h5, hb⟩
 obtain ⟨Eq, Ek, Eo, Em, Ee, Ei, Eg, rfl⟩ := h5.shape
 revert h3; revert Blk; refine mS hs hb ?_; clear hs hb; intro hs Blk h3
 by_cases q6 : d < 0
 ·have q6d : (d < 0) = True := eq_true (by omega)
  go_upto_region 7 with fail
  refine Code.abs ?_
  intro w4 hW
  have hG : Gr [] w3 w4 := by rw [hW]; exact (Gr.refl _ _).alloc.alloc
  have Kb := hs.size
  have Ka := Blk.lt
  have Dn : Bx w4 (w3.heap.size) 35 #[.bool Eq, .slice Ek Eo Em, .slice Ee Ei Eg] := by rw [hW]; exact ((Bx.new0 _ _ _).alloc _)
  have D8 : Bx w4 (w3.heap.size + 1) 35 #[.bool Ep, .slice Ej En El, .slice Ed Eh Ef] := by rw [hW]; exact (Bx.new0 _ _ _)
  replace hs := hs.trans (hG.below0 hs.size)
  revert h5; revert h3; revert Blk; refine g0 hG ?_; intro Blk h3 h5
  clear hW hG
  have K9 := D8.lt
  refine Dn.k3l fun Jn Jo Jp Lx => ?_
  refine D8.k3l fun Jq Jr Js Ly => ?_
  have Cs := Blk.a0
  have Ct := Blk.a1
  have Cu := Blk.a2
  have Cv := Blk.a3
  have Cw := Blk.a4
  have Cx := Blk.a5
  have Cy := Blk.a6
  have Cz := Blk.a7
  have fk := Blk.free
  have Lk := Blk.lt
  go_wp2
  clear Jn Jo Jp Jq Jr Js Cs Ct Cu Cv Cw Cx Cy Cz fk Lx Ly Lk
  refine bodyPost.abs ?_
  intro w5 hW
  have hG : Gr [w.heap.size] w4 w5 := by rw [hW]; exact (Gr.refl _ _).set.set.set.set.set.set.set.set
  have E5 := hs.size
  have lk := Blk.lt
  have hk := hG.keep ⟨⟨_, Blk.ty, by decide⟩, True.intro⟩
  have J9 : Bx w5 (w.heap.size) 99 #[.bool Eq, .slice Ek Eo Em, .slice Ee Ei Eg, .bool Ep, .slice Ej En El, .slice Ed Eh Ef, .bool false, .bool false] := by rw [hW]; exact (Bx.set (Bx.set (Bx.set (Bx.set (Bx.set (Bx.set (Bx.set (Bx.set Blk 0 _ rfl) 1 _ rfl) 2 _ rfl) 3 _ rfl) 4 _ rfl) 5 _ rfl) 6 _ rfl) 7 _ rfl)
  replace hs := hs.trans (hG.d1 hs.size)
  replace Dn := hG.b1 Dn
  replace D8 := hG.b1 D8
  replace Blk := J9
  clear J9
  revert h5; revert h3; refine ke hk ?_; intro h3 h5
  clear hW hG hk E5 lk
  have Cs := Blk.a0
  have Ct := Blk.a1
  have Cu := Blk.a2
  have Cv := Blk.a3
  have Cw := Blk.a4
  have Cx := Blk.a5
  have Cy := Blk.a6
  have Cz := Blk.a7
  exact bodyPost_ret (v := .agg #[.bool Eq, .slice Ek Eo Em, .slice Ee Ei Eg, .bool Ep, .slice Ej En El, .slice Ed Eh Ef, .bool false, .bool false]) (by simp [results, Tryz.results73, go_sem, Cs, Ct, Cu, Cv, Cw, Cx, Cy, Cz]) rfl ⟨_, rfl, ⟨_, _, _, _, _, _, _, _, _, _, _, _, _, _, (by rw [HA.out, HN.out, (tw_1 Co.out).1, (tw_1 Co.out).2] <;> rfl), h5.of_eq ((tw_n Co.out (by omega)).1.symm.trans Jm.out.symm), h3.of_eq ((tw_n Co.out (by omega)).2.symm.trans Jl.out.symm)⟩, hs⟩
 have q6d : (d < 0) = False := eq_false (by omega)
 go_upto_region 7 with fail
 refine Code.abs ?_
 intro w4 hW
 have hG : Gr [] w3 w4 := by rw [hW]; exact (Gr.refl _ _).alloc.alloc
 have Kb := hs.size
 have Ka := Blk.lt
 have Dn : Bx w4 (w3.heap.size) 35 #[.bool Ep, .slice Ej En El, .slice Ed Eh Ef] := by rw [hW]; exact ((Bx.new0 _ _ _).alloc _)
 have D8 : Bx w4 (w3.heap.size + 1) 35 #[.bool Eq, .slice Ek Eo Em, .slice Ee Ei Eg] := by rw [hW]; exact (Bx.new0 _ _ _)
 replace hs := hs.trans (hG.below0 hs.size)
 revert h5; revert h3; revert Blk; refine g0 hG ?_; intro Blk h3 h5
 clear hW hG
 have K9 := D8.lt
 refine Dn.k3l fun Jn Jo Jp Lx => ?_
 refine D8.k3l fun Jq Jr Js Ly => ?_
 have Cs := Blk.a0
 have Ct := Blk.a1
 have Cu := Blk.a2
 have Cv := Blk.a3
 have Cw := Blk.a4
 have Cx := Blk.a5
 have Cy := Blk.a6
 have Cz := Blk.a7
 have fk := Blk.free
 have Lk := Blk.lt
 go_wp2
 clear Jn Jo Jp Jq Jr Js Cs Ct Cu Cv Cw Cx Cy Cz fk Lx Ly Lk
 refine bodyPost.abs ?_
 intro w5 hW
 have hG : Gr [w.heap.size] w4 w5 := by rw [hW]; exact (Gr.refl _ _).set.set.set.set.set.set.set.set
 have E5 := hs.size
 have lk := Blk.lt
 have hk := hG.keep ⟨⟨_, Blk.ty, by decide⟩, True.intro⟩
 have J9 : Bx w5 (w.heap.size) 99 #[.bool Ep, .slice Ej En El, .slice Ed Eh Ef, .bool Eq, .slice Ek Eo Em, .slice Ee Ei Eg, .bool false, .bool false] := by rw [hW]; exact (Bx.set (Bx.set (Bx.set (Bx.set (Bx.set (Bx.set (Bx.set (Bx.set Blk 0 _ rfl) 1 _ rfl) 2 _ rfl) 3 _ rfl) 4 _ rfl) 5 _ rfl) 6 _ rfl) 7 _ rfl)
 replace hs := hs.trans (hG.d1 hs.size)
 replace Dn := hG.b1 Dn
 replace D8 := hG.b1 D8
 replace Blk := J9
 clear J9
 revert h5; revert h3; refine ke hk ?_; intro h3 h5
 clear hW hG hk E5 lk
 have Cs := Blk.a0
 have Ct := Blk.a1
 have Cu := Blk.a2
 have Cv := Blk.a3
 have Cw := Blk.a4
 have Cx := Blk.a5
 have Cy := Blk.a6
 have Cz := Blk.a7
 exact bodyPost_ret (v := .agg #[.bool Ep, .slice Ej En El, .slice Ed Eh Ef, .bool Eq, .slice Ek Eo Em, .slice Ee Ei Eg, .bool false, .bool false]) (by simp [results, Tryz.results73, go_sem, Cs, Ct, Cu, Cv, Cw, Cx, Cy, Cz]) rfl ⟨_, rfl, ⟨_, _, _, _, _, _, _, _, _, _, _, _, _, _, (by rw [HA.out, HN.out, (tw_1 Co.out).1, (tw_1 Co.out).2] <;> rfl), h3.of_eq ((tw_p Co.out (by omega)).1.symm.trans Jm.out.symm), h5.of_eq ((tw_p Co.out (by omega)).2.symm.trans Jl.out.symm)⟩, hs⟩
theorem pl_hits (a b p q : Pt) (u v : Int) (w : World) (ha : WP 1048576 a) (hb : WP 1048576 b) (hp : WP 1048576 p) (hq : WP 1048576 q) (hu : Wn 1048576 u) (hv : Wn 1048576 v) :
  Calls Tryz.prog 36 #[.agg #[.int .i64 a.1, .int .i64 a.2], .agg #[.int .i64 b.1, .int .i64 b.2], .int .i64 u, .int .i64 v, .agg #[.int .i64 p.1, .int .i64 p.2, .int .i64 q.1, .int .i64 q.2]] w (RetV w (.bool (hitB a b u v (p, q)))) := by
 have hs := Below.refl w.heap.size w
 go_enter Tryz.func36, Tryz.ntmps36
 go_wp2_with fail
 refine Calls.abs ?_
 intro w1 hW
 have hG : Gr [] w w1 := by rw [hW]; exact (Gr.refl _ _).alloc.alloc.alloc
 have J8 := hs.size
 have Ba : Bx w1 (w.heap.size) 31 #[.int .i64 a.1, .int .i64 a.2] := by rw [hW]; exact (((Bx.new0 _ _ _).alloc _).alloc _)
 have Bb : Bx w1 (w.heap.size + 1) 31 #[.int .i64 b.1, .int .i64 b.2] := by rw [hW]; exact ((Bx.new0 _ _ _).alloc _)
 have B9 : Bx w1 (w.heap.size + 1 + 1) 41 #[.int .i64 p.1, .int .i64 p.2, .int .i64 q.1, .int .i64 q.2] := by rw [hW]; exact (Bx.new0 _ _ _)
 replace hs := hs.trans (hG.below0 hs.size)
 clear hW hG
 have J7 := B9.lt
 with_reducible refine (pl_minus b.1 b.2 a.1 a.2 _ (Wn.wsub hb.1 ha.1 (by decide)) (Wn.wsub hb.2 ha.2 (by decide))).mono ?_
 rintro e w2 ⟨rfl, hb⟩
 revert B9; revert Bb; revert Ba; refine mS hs hb ?_; clear hs hb; intro hs Ba Bb B9
 go_wp2_with fail
 refine Calls.abs ?_
 intro w3 hW
 have hG : Gr [] w2 w3 := by rw [hW]; exact (Gr.refl _ _).alloc
 have sz_w3 := hs.size
 have na_w3 := Ba.lt
 have nb_w3 := Bb.lt
 have no_w3 := B9.lt
 have Bc : Bx w3 (w2.heap.size) 31 #[.int .i64 (b.1 - a.1), .int .i64 (b.2 - a.2)] := by rw [hW]; exact (Bx.new0 _ _ _)
 replace hs := hs.trans (hG.below0 hs.size)
 revert B9; revert Bb; revert Ba; refine g0 hG ?_; intro Ba Bb B9
 clear hW hG
 have hz_w3 := Bc.lt
 with_reducible refine (pl_num (-1) _ ((show Wn 1000 (-1) from Wn.lit (by decide) (by decide)).mono (by decide))).mono ?_
 rintro e w4 ⟨_, rfl, h1, hb⟩
 obtain ⟨sh1, ah1, nh1, ch1, Ah1, Nh1, Ch1, rfl⟩ := h1.shape
 revert Bc; revert B9; revert Bb; revert Ba; refine mS hs hb ?_; clear hs hb; intro hs Ba Bb B9 Bc
 go_wp2_with fail
 with_reducible refine (pl_num 2 _ ((show Wn 1000 2 from Wn.lit (by decide) (by decide)).mono (by decide))).mono ?_
 rintro e w5 ⟨_, rfl, h2, hb⟩
 obtain ⟨sh2, ah2, nh2, ch2, Ah2, Nh2, Ch2, rfl⟩ := h2.shape
 revert h1; revert Bc; revert B9; revert Bb; revert Ba; refine mS hs hb ?_; clear hs hb; intro hs Ba Bb B9 Bc h1
 go_upto_region 3 with fail
 refine Code.abs ?_
 intro w6 hW
 have hG : Gr [] w5 w6 := by rw [hW]; exact (Gr.refl _ _).alloc.alloc
 have sz_w6 := hs.size
 have na_w6 := Ba.lt
 have nb_w6 := Bb.lt
 have no_w6 := B9.lt
 have nd_w6 := Bc.lt
 have B1 : Bx w6 (w5.heap.size) 35 #[.bool sh1, .slice ah1 nh1 ch1, .slice Ah1 Nh1 Ch1] := by rw [hW]; exact ((Bx.new0 _ _ _).alloc _)
 have B0 : Bx w6 (w5.heap.size + 1) 35 #[.bool sh2, .slice ah2 nh2 ch2, .slice Ah2 Nh2 Ch2] := by rw [hW]; exact (Bx.new0 _ _ _)
 replace hs := hs.trans (hG.below0 hs.size)
 revert h2; revert h1; revert Bc; revert B9; revert Bb; revert Ba; refine g0 hG ?_; intro Ba Bb B9 Bc h1 h2
 clear hW hG
 have hz_w6 := B0.lt
 have AX3 : IntKind.i64.wrap (p.1 - u) = p.1 - u := Wn.wsub hp.1 hu (by decide)
 have AX4 : IntKind.i64.wrap (q.1 + u) = q.1 + u := Wn.wadd hq.1 hu (by decide)
 obtain ⟨L1, J2⟩ : ∃ z : Rat, z = twL a.1 (b.1 - a.1) (p.1 - u) (q.1 + u) := ⟨_, rfl⟩
 have SL1 := Lib.hid (show SzQ 4 L1 from by rw [J2]; exact (tms_sz (ha.1.mono (by decide)) ((Wn.sub hb.1 ha.1).mono (by decide)) ((Wn.sub hp.1 hu).mono (by decide)) ((Wn.add hq.1 hu).mono (by decide))).1)
 replace J2 := Lib.hid J2
 obtain ⟨H1, J0⟩ : ∃ z : Rat, z = twH a.1 (b.1 - a.1) (p.1 - u) (q.1 + u) := ⟨_, rfl⟩
 have SH1 := Lib.hid (show SzQ 4 H1 from by rw [J0]; exact (tms_sz (ha.1.mono (by decide)) ((Wn.sub hb.1 ha.1).mono (by decide)) ((Wn.sub hp.1 hu).mono (by decide)) ((Wn.add hq.1 hu).mono (by decide))).2)
 replace J0 := Lib.hid J0
 obtain ⟨A1, Dv⟩ : ∃ z : Bool, z = twA a.1 (b.1 - a.1) (p.1 - u) (q.1 + u) := ⟨_, rfl⟩
 obtain ⟨al1, Ja⟩ : ∃ z : Bool, z = A1 := ⟨_, rfl⟩
 replace Dv := Lib.hid Dv
 replace Ja := Lib.hid Ja
 obtain ⟨N1, J4⟩ : ∃ z : Bool, z = twN a.1 (b.1 - a.1) (p.1 - u) (q.1 + u) := ⟨_, rfl⟩
 obtain ⟨Je, Dk⟩ : ∃ z : Bool, z = N1 := ⟨_, rfl⟩
 replace J4 := Lib.hid J4
 replace Dk := Lib.hid Dk
 have AX6 : IntKind.i64.wrap (p.2 - v) = p.2 - v := Wn.wsub hp.2 hv (by decide)
 have AX7 : IntKind.i64.wrap (q.2 + v) = q.2 + v := Wn.wadd hq.2 hv (by decide)
 obtain ⟨L2, J3⟩ : ∃ z : Rat, z = twL a.2 (b.2 - a.2) (p.2 - v) (q.2 + v) := ⟨_, rfl⟩
 have SL2 := Lib.hid (show SzQ 4 L2 from by rw [J3]; exact (tms_sz (ha.2.mono (by decide)) ((Wn.sub hb.2 ha.2).mono (by decide)) ((Wn.sub hp.2 hv).mono (by decide)) ((Wn.add hq.2 hv).mono (by decide))).1)
 replace J3 := Lib.hid J3
 obtain ⟨H2, J1⟩ : ∃ z : Rat, z = twH a.2 (b.2 - a.2) (p.2 - v) (q.2 + v) := ⟨_, rfl⟩
 have SH2 := Lib.hid (show SzQ 4 H2 from by rw [J1]; exact (tms_sz (ha.2.mono (by decide)) ((Wn.sub hb.2 ha.2).mono (by decide)) ((Wn.sub hp.2 hv).mono (by decide)) ((Wn.add hq.2 hv).mono (by decide))).2)
 replace J1 := Lib.hid J1
 obtain ⟨A2, Dw⟩ : ∃ z : Bool, z = twA a.2 (b.2 - a.2) (p.2 - v) (q.2 + v) := ⟨_, rfl⟩
 obtain ⟨al2, Jb⟩ : ∃ z : Bool, z = A2 := ⟨_, rfl⟩
 replace Dw := Lib.hid Dw
 replace Jb := Lib.hid Jb
 obtain ⟨N2, J5⟩ : ∃ z : Bool, z = twN a.2 (b.2 - a.2) (p.2 - v) (q.2 + v) := ⟨_, rfl⟩
 obtain ⟨Jf, Dl⟩ : ∃ z : Bool, z = N2 := ⟨_, rfl⟩
 replace J5 := Lib.hid J5
 replace Dl := Lib.hid Dl
 refine U_region (S := fun w' => w'.cell? ⟨w.heap.size, 0, none⟩ = some (.int .i64 a.1) ∧ w'.cell? ⟨w.heap.size, 1, none⟩ = some (.int .i64 a.2) ∧ w'.cell? ⟨w2.heap.size, 0, none⟩ = some (.int .i64 (b.1 - a.1)) ∧ w'.cell? ⟨w2.heap.size, 1, none⟩ = some (.int .i64 (b.2 - a.2)) ∧ w'.cell? ⟨w.heap.size + 1 + 1, 0, none⟩ = some (.int .i64 p.1) ∧ w'.cell? ⟨w.heap.size + 1 + 1, 1, none⟩ = some (.int .i64 p.2) ∧ w'.cell? ⟨w.heap.size + 1 + 1, 2, none⟩ = some (.int .i64 q.1) ∧ w'.cell? ⟨w.heap.size + 1 + 1, 3, none⟩ = some (.int .i64 q.2)) (by kernel_rfl) 32 ?_
 refine AnyU.abs ?_
 intro w7 hW
 have hb : Below w6.heap.size w6 w7 := by rw [hW]; exact bDrew _
 replace hs := bStep hs hb
 revert h2; revert h1; revert B0; revert B1; revert Bc; revert B9; revert Bb; revert Ba; refine mo hb ?_; intro Ba Bb B9 Bc B1 B0 h1 h2
 clear hb hW
 refine Ba.k2 fun Dx Dy => ?_
 refine Bc.k2 fun Dz E0 => ?_
 refine B9.k4 fun E1 E2 E3 E4 => ?_
 have hH := (show w7.cell? ⟨w.heap.size, 0, none⟩ = some (.int .i64 a.1) ∧ w7.cell? ⟨w.heap.size, 1, none⟩ = some (.int .i64 a.2) ∧ w7.cell? ⟨w2.heap.size, 0, none⟩ = some (.int .i64 (b.1 - a.1)) ∧ w7.cell? ⟨w2.heap.size, 1, none⟩ = some (.int .i64 (b.2 - a.2)) ∧ w7.cell? ⟨w.heap.size + 1 + 1, 0, none⟩ = some (.int .i64 p.1) ∧ w7.cell? ⟨w.heap.size + 1 + 1, 1, none⟩ = some (.int .i64 p.2) ∧ w7.cell? ⟨w.heap.size + 1 + 1, 2, none⟩ = some (.int .i64 q.1) ∧ w7.cell? ⟨w.heap.size + 1 + 1, 3, none⟩ = some (.int .i64 q.2) from ⟨Dx, Dy, Dz, E0, E1, E2, E3, E4⟩)
 refine U_tq 0 21 hH ?_
 simp only [LY]
 refine U_tq 1 22 hH ?_
 simp only [LY]
 refine U_tq 2 23 hH ?_
 simp only [LY]
 refine U_tq 3 24 hH ?_
 simp only [LY]
 refine U_tq 4 25 hH ?_
 simp only [LY]
 refine U_tq 5 26 hH ?_
 simp only [LY]
 refine U_tq 6 27 hH ?_
 simp only [LY]
 refine U_tq 7 28 hH ?_
 simp only [LY]
 refine U_tq 8 29 hH ?_
 simp only [LY]
 refine U_tq 9 30 hH ?_
 simp only [LY]
 refine U_tq 10 31 hH ?_
 simp only [LY]
 refine U_tq 11 32 hH ?_
 simp only [LY]
 refine U_tq 12 33 hH ?_
 simp only [LY]
 refine U_tq 13 34 hH ?_
 simp only [LY]
 refine U_tq 15 36 hH ?_
 simp only [LY]
 refine U_tq 16 37 hH ?_
 simp only [LY]
 refine U_tq 17 38 hH ?_
 simp only [LY]
 refine U_tq 18 39 hH ?_
 simp only [LY]
 refine U_tq 19 40 hH ?_
 simp only [LY]
 refine U_tq 20 41 hH ?_
 simp only [LY]
 refine U_tq 21 42 hH ?_
 simp only [LY]
 refine U_tq 22 43 hH ?_
 simp only [LY]
 refine U_tq 23 44 hH ?_
 simp only [LY]
 refine U_tq 24 45 hH ?_
 simp only [LY]
 refine U_tq 25 46 hH ?_
 simp only [LY]
 refine U_tq 26 47 hH ?_
 simp only [LY]
 refine U_tq 27 48 hH ?_
 simp only [LY]
 refine U_tq 28 49 hH ?_
 simp only [LY]
 refine U_tq 31 52 hH ?_
 simp only [LY]
 clear hH
 refine U_on 14 fun K hK => ?_
 go_simp
 (with_reducible refine (pl_times a.1 (b.1 - a.1) (p.1 - u) (q.1 + u) _ (ha.1.mono (by decide)) ((Wn.sub hb.1 ha.1).mono (by decide)) ((Wn.sub hp.1 hu).mono (by decide)) ((Wn.add hq.1 hu).mono (by decide)) (Ja.out.trans Dv.out) (Dk.out.trans J4.out) J2.out J0.out).mono ?_)
 rintro e w8 ⟨_, rfl, h5, hb⟩
 obtain ⟨Ck, C8, Cg, Cc, Bv, C4, C0, Cl, C9, Ch, Cd, Bw, C5, C1, rfl, Bf, Bg⟩ := h5
 replace hs := bStep hs hb
 revert h2; revert h1; revert B0; revert B1; revert Bc; revert B9; revert Bb; revert Ba; refine mo hb ?_; intro Ba Bb B9 Bc B1 B0 h1 h2
 replace Dx := cellK Dx hb
 replace Dy := cellK Dy hb
 replace Dz := cellK Dz hb
 replace E0 := cellK E0 hb
 replace E1 := cellK E1 hb
 replace E2 := cellK E2 hb
 replace E3 := cellK E3 hb
 replace E4 := cellK E4 hb
 clear hb
 try go_wp2_with fail
 refine hK.out _ _ ⟨Dx, Dy, Dz, E0, E1, E2, E3, E4⟩ (fun hH => ?_)
 clear hK K
 try simp only [LY]
 clear hH
 refine U_on 29 fun K hK => ?_
 go_simp
 (with_reducible refine (pl_times a.2 (b.2 - a.2) (p.2 - v) (q.2 + v) _ (ha.2.mono (by decide)) ((Wn.sub hb.2 ha.2).mono (by decide)) ((Wn.sub hp.2 hv).mono (by decide)) ((Wn.add hq.2 hv).mono (by decide)) (Jb.out.trans Dw.out) (Dl.out.trans J5.out) J3.out J1.out).mono ?_)
 rintro e w9 ⟨_, rfl, h8, hb⟩
 obtain ⟨Cm, Ca, Ci, Ce, By, C6, C2, Cn, Cb, Cj, Cf, Bz, C7, C3, rfl, Bi, Bj⟩ := h8
 replace hs := bStep hs hb
 revert Bg; revert Bf; revert h2; revert h1; revert B0; revert B1; revert Bc; revert B9; revert Bb; revert Ba; refine mo hb ?_; intro Ba Bb B9 Bc B1 B0 h1 h2 Bf Bg
 replace Dx := cellK Dx hb
 replace Dy := cellK Dy hb
 replace Dz := cellK Dz hb
 replace E0 := cellK E0 hb
 replace E1 := cellK E1 hb
 replace E2 := cellK E2 hb
 replace E3 := cellK E3 hb
 replace E4 := cellK E4 hb
 clear hb
 try go_wp2_with fail
 refine hK.out _ _ ⟨Dx, Dy, Dz, E0, E1, E2, E3, E4⟩ (fun hH => ?_)
 clear hK K
 try simp only [LY]
 refine U_tq 30 51 hH ?_
 simp only [LY]
 clear hH
 refine U_endN (by kernel_rfl) ?_
 clear Dx Dy Dz E0 E1 E2 E3 E4
 have Ez := Lib.hid (hfL_sz (al1 := A1) (al2 := A2) SL1.out SL2.out)
 have Jd := Lib.hid (hgH_sz (al1 := A1) (al2 := A2) SH1.out SH2.out)
 go_wp2
 go_loopw [52] (fun s52 wq => ∃ k : Nat, k ≤ 2 ∧ s52 = .int .i64 k ∧ Below w.heap.size w wq ∧ Bx wq (w.heap.size) 31 #[.int .i64 a.1, .int .i64 a.2] ∧ Bx wq (w.heap.size + 1) 31 #[.int .i64 b.1, .int .i64 b.2] ∧ Bx wq (w.heap.size + 1 + 1) 41 #[.int .i64 p.1, .int .i64 p.2, .int .i64 q.1, .int .i64 q.2] ∧ Bx wq (w2.heap.size) 31 #[.int .i64 (b.1 - a.1), .int .i64 (b.2 - a.2)] ∧ PV wq (.agg #[.bool Ck, .slice C8 Cg Cc, .slice Bv C4 C0]) (L1) ∧ PV wq (.agg #[.bool Cl, .slice C9 Ch Cd, .slice Bw C5 C1]) (H1) ∧ PV wq (.agg #[.bool Cm, .slice Ca Ci Ce, .slice By C6 C2]) (L2) ∧ PV wq (.agg #[.bool Cn, .slice Cb Cj Cf, .slice Bz C7 C3]) (H2) ∧ BoxP wq (w5.heap.size) (hfL A1 A2 L1 L2 k) ∧ BoxP wq (w5.heap.size + 1) (hgH A1 A2 H1 H2 k) ∧ ((1 ≤ k → Je = false)) ∧ ((2 ≤ k → Jf = false))) (fun s52 _ => 2 - (intOf s52).toNat)
 case atStart => exact ⟨0, Nat.zero_le _, rfl, hs, Ba, Bb, B9, Bc, Bf, Bg, Bi, Bj, ⟨_, _, _, _, _, _, _, B1, h1⟩, ⟨_, _, _, _, _, _, _, B0, h2⟩, (fun h => absurd h (by omega)), (fun h => absurd h (by omega))⟩
 case round =>
  clear Ba Bb B9 Bc B1 B0 h1 h2 Bf Bg Bi Bj hs
  obtain ⟨k, k_le, rfl, hs, Ba, Bb, B9, Bc, Bf, Bg, Bi, Bj, ⟨D7, D4, D6, D5, D1, D3, D2, B1, h9⟩, ⟨Bt, Bq, Bs, Br, Bn, Bp, Bo, B0, Bh⟩, Ey, Jc⟩ := hrel
  replace Ey := Lib.hid Ey
  replace Jc := Lib.hid Jc
  by_cases q11 : k < 2
  ·have q11d : ((k : Int) < 2) = True := eq_true (by omega)
   rcases (show k = 0 ∨ k = 1 by omega) with rfl | rfl
   ·have IX_ : ∀ w : World, (Instr.index 101 (.agg #[.bool Ck, .slice C8 Cg Cc, .slice Bv C4 C0, .bool Cl, .slice C9 Ch Cd, .slice Bw C5 C1, .bool al1, .bool Je, .bool Cm, .slice Ca Ci Ce, .slice By C6 C2, .bool Cn, .slice Cb Cj Cf, .slice Bz C7 C3, .bool al2, .bool Jf]) (.int .i64 0)).run Tryz.prog w = .ok (.agg #[.bool Ck, .slice C8 Cg Cc, .slice Bv C4 C0, .bool Cl, .slice C9 Ch Cd, .slice Bw C5 C1, .bool al1, .bool Je]) w := fun _ => by rfl
    by_cases q12 : N1 = true
    ·obtain rfl : Je = true := by rw [Dk.out]; exact q12
     have Jv := Lib.hid q12
     clear q12
     go_wp2
     refine bodyPost.abs ?_
     intro Bd hW
     have hG : Gr [] wr Bd := by rw [hW]; exact (Gr.refl _ _).alloc
     have Eb := hs.size
     have E7 := Ba.lt
     have E8 := Bb.lt
     have Ea := B9.lt
     have E9 := Bc.lt
     have Di := B1.lt
     have D0 := B0.lt
     have Be : Bx Bd (wr.heap.size) 99 #[.bool Ck, .slice C8 Cg Cc, .slice Bv C4 C0, .bool Cl, .slice C9 Ch Cd, .slice Bw C5 C1, .bool al1, .bool true] := by rw [hW]; exact (Bx.new0 _ _ _)
     replace hs := hs.trans (hG.below0 hs.size)
     revert Bh; revert h9; revert Bj; revert Bi; revert Bg; revert Bf; revert B0; revert B1; revert Bc; revert B9; revert Bb; revert Ba; refine g0 hG ?_; intro Ba Bb B9 Bc B1 B0 Bf Bg Bi Bj h9 Bh
     clear hW hG
     have E6 := Be.lt
     go_ret
     exact ⟨by rw [show hitB a b u v (p, q) = false from ht_no1 (J4.out.symm.trans Dk.out.symm)]; rfl, hs⟩
    obtain rfl : Je = false := by rw [Dk.out]; simpa using q12
    have Jv := Lib.hid q12
    clear q12
    by_cases q13 : A1 = true
    ·obtain rfl : al1 = true := by rw [Ja.out]; exact q13
     have Bu := Lib.hid q13
     clear q13
     go_upto_region 13 with fail
     refine Code.abs ?_
     intro Bd hW
     have hG : Gr [] wr Bd := by rw [hW]; exact (Gr.refl _ _).alloc
     have Eb := hs.size
     have E7 := Ba.lt
     have E8 := Bb.lt
     have Ea := B9.lt
     have E9 := Bc.lt
     have Di := B1.lt
     have D0 := B0.lt
     have Be : Bx Bd (wr.heap.size) 99 #[.bool Ck, .slice C8 Cg Cc, .slice Bv C4 C0, .bool Cl, .slice C9 Ch Cd, .slice Bw C5 C1, .bool true, .bool false] := by rw [hW]; exact (Bx.new0 _ _ _)
     replace hs := hs.trans (hG.below0 hs.size)
     revert Bh; revert h9; revert Bj; revert Bi; revert Bg; revert Bf; revert B0; revert B1; revert Bc; revert B9; revert Bb; revert Ba; refine g0 hG ?_; intro Ba Bb B9 Bc B1 B0 Bf Bg Bi Bj h9 Bh
     clear hW hG
     have E6 := Be.lt
     go_wp2
     go_roundw
     case rel => exact ⟨0 + 1, by omega, by go_num, hs, Ba, Bb, B9, Bc, Bf, Bg, Bi, Bj, ⟨_, _, _, _, _, _, _, B1, (h9.of_eq (show _ = hf1 _ _ _ from (if_pos Bu.out).symm))⟩, ⟨_, _, _, _, _, _, _, B0, (Bh.of_eq (show _ = hg1 _ _ _ from (if_pos Bu.out).symm))⟩, (fun _ => by first | trivial | rfl), (fun h => absurd h (by omega))⟩
     all_goals first | (simp [intOf]; done) | (simp [intOf]; omega)
    obtain rfl : al1 = false := by rw [Ja.out]; simpa using q13
    have Bu := Lib.hid q13
    clear q13
    refine B1.k3l fun B6 B7 B8 Er => ?_
    go_wp2_with fail
    clear B6 B7 B8 Er
    refine Calls.abs ?_
    intro Bd hW
    have hG : Gr [] wr Bd := by rw [hW]; exact (Gr.refl _ _).alloc
    have Eb := hs.size
    have E7 := Ba.lt
    have E8 := Bb.lt
    have Ea := B9.lt
    have E9 := Bc.lt
    have Di := B1.lt
    have D0 := B0.lt
    have Be : Bx Bd (wr.heap.size) 99 #[.bool Ck, .slice C8 Cg Cc, .slice Bv C4 C0, .bool Cl, .slice C9 Ch Cd, .slice Bw C5 C1, .bool false, .bool false] := by rw [hW]; exact (Bx.new0 _ _ _)
    replace hs := hs.trans (hG.below0 hs.size)
    revert Bh; revert h9; revert Bj; revert Bi; revert Bg; revert Bf; revert B0; revert B1; revert Bc; revert B9; revert Bb; revert Ba; refine g0 hG ?_; intro Ba Bb B9 Bc B1 B0 Bf Bg Bi Bj h9 Bh
    clear hW hG
    have E6 := Be.lt
    with_reducible refine (pCmp Bf h9 (SzQ.fit SL1.out) (SzQ.fit (Ez.out 0))).mono ?_
    rintro e Bm ⟨rfl, hb⟩
    revert Bh; revert h9; revert Bj; revert Bi; revert Bg; revert Bf; revert Be; revert B0; revert B1; revert Bc; revert B9; revert Bb; revert Ba; refine mS hs hb ?_; clear hs hb; intro hs Ba Bb B9 Bc B1 B0 Be Bf Bg Bi Bj h9 Bh
    obtain ⟨Dr, Cp⟩ : ∃ s : Int, s = sgQ (L1 - (hfL A1 A2 L1 L2 0)) := ⟨_, rfl⟩
    rw [← Cp]
    replace Cp := Lib.hid Cp
    go_upto_if 63 with (fail)
    go_cut [64, 65] (fun kf64 kf65 wz => Below w.heap.size w wz ∧ Bx wz (w.heap.size) 31 #[.int .i64 a.1, .int .i64 a.2] ∧ Bx wz (w.heap.size + 1) 31 #[.int .i64 b.1, .int .i64 b.2] ∧ Bx wz (w.heap.size + 1 + 1) 41 #[.int .i64 p.1, .int .i64 p.2, .int .i64 q.1, .int .i64 q.2] ∧ Bx wz (w2.heap.size) 31 #[.int .i64 (b.1 - a.1), .int .i64 (b.2 - a.2)] ∧ Bx wz (w5.heap.size + 1) 35 #[.bool Bt, .slice Bq Bs Br, .slice Bn Bp Bo] ∧ Bx wz (wr.heap.size) 99 #[.bool Ck, .slice C8 Cg Cc, .slice Bv C4 C0, .bool Cl, .slice C9 Ch Cd, .slice Bw C5 C1, .bool false, .bool false] ∧ PV wz (.agg #[.bool Ck, .slice C8 Cg Cc, .slice Bv C4 C0]) (L1) ∧ PV wz (.agg #[.bool Cl, .slice C9 Ch Cd, .slice Bw C5 C1]) (H1) ∧ PV wz (.agg #[.bool Cm, .slice Ca Ci Ce, .slice By C6 C2]) (L2) ∧ PV wz (.agg #[.bool Cn, .slice Cb Cj Cf, .slice Bz C7 C3]) (H2) ∧ PV wz (.agg #[.bool Bt, .slice Bq Bs Br, .slice Bn Bp Bo]) (hgH A1 A2 H1 H2 0) ∧ BoxP wz (w5.heap.size) (mxR (hfL A1 A2 L1 L2 0) L1))
    case first =>
     by_cases q15 : hfL A1 A2 L1 L2 0 < L1
     ·have Eu : 0 < Dr := by have h := sq_gt L1 (hfL A1 A2 L1 L2 0); rw [← Cp.out] at h; exact h.2 q15
      have Et := Lib.hid q15
      clear q15
      have Ev : decide (0 < Dr) = true := decide_eq_true Eu
      try simp only [Ev]
      have D9 := Be.a0
      have Da := Be.a1
      have Db := Be.a2
      have Dc := Be.a3
      have Dd := Be.a4
      have De := Be.a5
      have Df := Be.a6
      have Dh := Be.a7
      have Lt := Be.lt
      refine B1.k3fl fun B6 B7 B8 Jt Er => ?_
      go_wp2_with fail
      go_meet
      refine meetP (P := fun wz => Below w.heap.size w wz ∧ Bx wz (w.heap.size) 31 #[.int .i64 a.1, .int .i64 a.2] ∧ Bx wz (w.heap.size + 1) 31 #[.int .i64 b.1, .int .i64 b.2] ∧ Bx wz (w.heap.size + 1 + 1) 41 #[.int .i64 p.1, .int .i64 p.2, .int .i64 q.1, .int .i64 q.2] ∧ Bx wz (w2.heap.size) 31 #[.int .i64 (b.1 - a.1), .int .i64 (b.2 - a.2)] ∧ Bx wz (w5.heap.size + 1) 35 #[.bool Bt, .slice Bq Bs Br, .slice Bn Bp Bo] ∧ Bx wz (wr.heap.size) 99 #[.bool Ck, .slice C8 Cg Cc, .slice Bv C4 C0, .bool Cl, .slice C9 Ch Cd, .slice Bw C5 C1, .bool false, .bool false] ∧ PV wz (.agg #[.bool Ck, .slice C8 Cg Cc, .slice Bv C4 C0]) (L1) ∧ PV wz (.agg #[.bool Cl, .slice C9 Ch Cd, .slice Bw C5 C1]) (H1) ∧ PV wz (.agg #[.bool Cm, .slice Ca Ci Ce, .slice By C6 C2]) (L2) ∧ PV wz (.agg #[.bool Cn, .slice Cb Cj Cf, .slice Bz C7 C3]) (H2) ∧ PV wz (.agg #[.bool Bt, .slice Bq Bs Br, .slice Bn Bp Bo]) (hgH A1 A2 H1 H2 0) ∧ BoxP wz (w5.heap.size) (mxR (hfL A1 A2 L1 L2 0) L1)) ?_
      clear D9 Da Db Dc Dd De Df Dh B6 B7 B8 Jt Lt Er
      intro Bl hW
      have hG : Gr [w5.heap.size] Bm Bl := by rw [hW]; exact (Gr.refl _ _).set.set.set
      have E5 := hs.size
      have Ju := B1.lt
      have hk := hG.keep ⟨⟨_, B1.ty, by decide⟩, True.intro⟩
      have Du : Bx Bl (w5.heap.size) 35 #[.bool Ck, .slice C8 Cg Cc, .slice Bv C4 C0] := by rw [hW]; exact B1.set3
      replace hs := hs.trans (hG.d1 hs.size)
      replace Ba := hG.b1 Ba
      replace Bb := hG.b1 Bb
      replace B9 := hG.b1 B9
      replace Bc := hG.b1 Bc
      replace B0 := hG.b1 B0
      replace Be := hG.b1 Be
      replace B1 := Du
      clear Du
      revert Bh; revert h9; revert Bj; revert Bi; revert Bg; revert Bf; refine ke hk ?_; intro Bf Bg Bi Bj h9 Bh
      clear hW hG hk E5 Ju
      exact ⟨hs, Ba, Bb, B9, Bc, B0, Be, Bf, Bg, Bi, Bj, Bh, ⟨_, _, _, _, _, _, _, B1, (Bf.of_eq (show _ = mxR _ _ from (if_pos Et.out).symm))⟩⟩
     have Eu : ¬ (0 < Dr) := by have h := sq_gt L1 (hfL A1 A2 L1 L2 0); rw [← Cp.out] at h; exact fun h1 => q15 (h.1 h1)
     have Et := Lib.hid q15
     clear q15
     have Ev : decide (0 < Dr) = false := decide_eq_false Eu
     try simp only [Ev]
     go_wp2_with fail
     go_meet
     exact ⟨hs, Ba, Bb, B9, Bc, B0, Be, Bf, Bg, Bi, Bj, Bh, ⟨_, _, _, _, _, _, _, B1, (h9.of_eq (show _ = mxR _ _ from (if_neg Et.out).symm))⟩⟩
    case rest =>
     clear hs Ba Bb B9 Bc B0 Be Bf Bg Bi Bj Bh
     obtain ⟨hs, Ba, Bb, B9, Bc, B0, Be, Bf, Bg, Bi, Bj, Bh, ⟨sh15, ah15, nh15, ch15, Ah15, Nh15, Ch15, B1, Do⟩⟩ := hcut
     have D9 := Be.a0
     have Da := Be.a1
     have Db := Be.a2
     have Dc := Be.a3
     have Dd := Be.a4
     have De := Be.a5
     have Df := Be.a6
     have Dh := Be.a7
     have Lt := Be.lt
     refine B0.k3l fun B3 B4 B5 Dq => ?_
     go_wp2_with fail
     clear D9 Da Db Dc Dd De Df Dh B3 B4 B5 Lt Dq
     with_reducible refine (pCmp Bg Bh (SzQ.fit SH1.out) (SzQ.fit (Jd.out 0))).mono ?_
     rintro e Bl ⟨rfl, hb⟩
     revert Do; revert Bh; revert Bj; revert Bi; revert Bg; revert Bf; revert B1; revert Be; revert B0; revert Bc; revert B9; revert Bb; revert Ba; refine mS hs hb ?_; clear hs hb; intro hs Ba Bb B9 Bc B0 Be B1 Bf Bg Bi Bj Bh Do
     obtain ⟨Ds, Cq⟩ : ∃ s : Int, s = sgQ (H1 - (hgH A1 A2 H1 H2 0)) := ⟨_, rfl⟩
     rw [← Cq]
     replace Cq := Lib.hid Cq
     by_cases q17 : H1 < hgH A1 A2 H1 H2 0
     ·have Ex : Ds < 0 := by have h := sq_lt H1 (hgH A1 A2 H1 H2 0); rw [← Cq.out] at h; exact h.2 q17
      have Ew := Lib.hid q17
      clear q17
      have Jz : decide (Ds < 0) = true := decide_eq_true Ex
      have D9 := Be.a0
      have Da := Be.a1
      have Db := Be.a2
      have Dc := Be.a3
      have Dd := Be.a4
      have De := Be.a5
      have Df := Be.a6
      have Dh := Be.a7
      have Lt := Be.lt
      refine B0.k3fl fun B3 B4 B5 Jg Dq => ?_
      go_upto_region 13 with fail
      clear D9 Da Db Dc Dd De Df Dh B3 B4 B5 Jg Lt Dq
      refine Code.abs ?_
      intro Dt hW
      have hG : Gr [w5.heap.size + 1] Bl Dt := by rw [hW]; exact (Gr.refl _ _).set.set.set
      have E5 := hs.size
      have Jh := B0.lt
      have hk := hG.keep ⟨⟨_, B0.ty, by decide⟩, True.intro⟩
      have Dm : Bx Dt (w5.heap.size + 1) 35 #[.bool Cl, .slice C9 Ch Cd, .slice Bw C5 C1] := by rw [hW]; exact B0.set3
      replace hs := hs.trans (hG.d1 hs.size)
      replace Ba := hG.b1 Ba
      replace Bb := hG.b1 Bb
      replace B9 := hG.b1 B9
      replace Bc := hG.b1 Bc
      replace Be := hG.b1 Be
      replace B1 := hG.b1 B1
      replace B0 := Dm
      clear Dm
      revert Do; revert Bh; revert Bj; revert Bi; revert Bg; revert Bf; refine ke hk ?_; intro Bf Bg Bi Bj Bh Do
      clear hW hG hk E5 Jh
      go_wp2
      go_roundw
      case rel => exact ⟨0 + 1, by omega, by go_num, hs, Ba, Bb, B9, Bc, Bf, Bg, Bi, Bj, ⟨_, _, _, _, _, _, _, B1, (Do.of_eq (show _ = hf1 _ _ _ from (if_neg Bu.out).symm))⟩, ⟨_, _, _, _, _, _, _, B0, (Bg.of_eq (show _ = hg1 _ _ _ from ((if_neg Bu.out).trans (if_pos Ew.out)).symm))⟩, (fun _ => by first | trivial | rfl), (fun h => absurd h (by omega))⟩
      all_goals first | (simp [intOf]; done) | (simp [intOf]; omega)
     have Ex : ¬ (Ds < 0) := by have h := sq_lt H1 (hgH A1 A2 H1 H2 0); rw [← Cq.out] at h; exact fun h1 => q17 (h.1 h1)
     have Ew := Lib.hid q17
     clear q17
     have Jz : decide (Ds < 0) = false := decide_eq_false Ex
     go_wp2
     go_roundw
     case rel => exact ⟨0 + 1, by omega, by go_num, hs, Ba, Bb, B9, Bc, Bf, Bg, Bi, Bj, ⟨_, _, _, _, _, _, _, B1, (Do.of_eq (show _ = hf1 _ _ _ from (if_neg Bu.out).symm))⟩, ⟨_, _, _, _, _, _, _, B0, (Bh.of_eq (show _ = hg1 _ _ _ from ((if_neg Bu.out).trans (if_neg Ew.out)).symm))⟩, (fun _ => by first | trivial | rfl), (fun h => absurd h (by omega))⟩
     all_goals first | (simp [intOf]; done) | (simp [intOf]; omega)
   have IX_ : ∀ w : World, (Instr.index 101 (.agg #[.bool Ck, .slice C8 Cg Cc, .slice Bv C4 C0, .bool Cl, .slice C9 Ch Cd, .slice Bw C5 C1, .bool al1, .bool Je, .bool Cm, .slice Ca Ci Ce, .slice By C6 C2, .bool Cn, .slice Cb Cj Cf, .slice Bz C7 C3, .bool al2, .bool Jf]) (.int .i64 1)).run Tryz.prog w = .ok (.agg #[.bool Cm, .slice Ca Ci Ce, .slice By C6 C2, .bool Cn, .slice Cb Cj Cf, .slice Bz C7 C3, .bool al2, .bool Jf]) w := fun _ => by rfl
   by_cases q12 : N2 = true
   ·obtain rfl : Jf = true := by rw [Dl.out]; exact q12
    have Jv := Lib.hid q12
    clear q12
    go_wp2
    refine bodyPost.abs ?_
    intro Bd hW
    have hG : Gr [] wr Bd := by rw [hW]; exact (Gr.refl _ _).alloc
    have Eb := hs.size
    have E7 := Ba.lt
    have E8 := Bb.lt
    have Ea := B9.lt
    have E9 := Bc.lt
    have Di := B1.lt
    have D0 := B0.lt
    have Be : Bx Bd (wr.heap.size) 99 #[.bool Cm, .slice Ca Ci Ce, .slice By C6 C2, .bool Cn, .slice Cb Cj Cf, .slice Bz C7 C3, .bool al2, .bool true] := by rw [hW]; exact (Bx.new0 _ _ _)
    replace hs := hs.trans (hG.below0 hs.size)
    revert Bh; revert h9; revert Bj; revert Bi; revert Bg; revert Bf; revert B0; revert B1; revert Bc; revert B9; revert Bb; revert Ba; refine g0 hG ?_; intro Ba Bb B9 Bc B1 B0 Bf Bg Bi Bj h9 Bh
    clear hW hG
    have E6 := Be.lt
    go_ret
    exact ⟨by rw [show hitB a b u v (p, q) = false from ht_no2 (J5.out.symm.trans Dl.out.symm)]; rfl, hs⟩
   obtain rfl : Jf = false := by rw [Dl.out]; simpa using q12
   have Jv := Lib.hid q12
   clear q12
   by_cases q13 : A2 = true
   ·obtain rfl : al2 = true := by rw [Jb.out]; exact q13
    have Bu := Lib.hid q13
    clear q13
    go_upto_region 13 with fail
    refine Code.abs ?_
    intro Bd hW
    have hG : Gr [] wr Bd := by rw [hW]; exact (Gr.refl _ _).alloc
    have Eb := hs.size
    have E7 := Ba.lt
    have E8 := Bb.lt
    have Ea := B9.lt
    have E9 := Bc.lt
    have Di := B1.lt
    have D0 := B0.lt
    have Be : Bx Bd (wr.heap.size) 99 #[.bool Cm, .slice Ca Ci Ce, .slice By C6 C2, .bool Cn, .slice Cb Cj Cf, .slice Bz C7 C3, .bool true, .bool false] := by rw [hW]; exact (Bx.new0 _ _ _)
    replace hs := hs.trans (hG.below0 hs.size)
    revert Bh; revert h9; revert Bj; revert Bi; revert Bg; revert Bf; revert B0; revert B1; revert Bc; revert B9; revert Bb; revert Ba; refine g0 hG ?_; intro Ba Bb B9 Bc B1 B0 Bf Bg Bi Bj h9 Bh
    clear hW hG
    have E6 := Be.lt
    go_wp2
    go_roundw
    case rel => exact ⟨1 + 1, by omega, by go_num, hs, Ba, Bb, B9, Bc, Bf, Bg, Bi, Bj, ⟨_, _, _, _, _, _, _, B1, (h9.of_eq (show _ = hf1 _ _ _ from (if_pos Bu.out).symm))⟩, ⟨_, _, _, _, _, _, _, B0, (Bh.of_eq (show _ = hg1 _ _ _ from (if_pos Bu.out).symm))⟩, (fun _ => Ey.out (by omega)), (fun _ => by first | trivial | rfl)⟩
    all_goals first | (simp [intOf]; done) | (simp [intOf]; omega)
   obtain rfl : al2 = false := by rw [Jb.out]; simpa using q13
   have Bu := Lib.hid q13
   clear q13
   refine B1.k3l fun B6 B7 B8 Er => ?_
   go_wp2_with fail
   clear B6 B7 B8 Er
   refine Calls.abs ?_
   intro Bd hW
   have hG : Gr [] wr Bd := by rw [hW]; exact (Gr.refl _ _).alloc
   have Eb := hs.size
   have E7 := Ba.lt
   have E8 := Bb.lt
   have Ea := B9.lt
   have E9 := Bc.lt
   have Di := B1.lt
   have D0 := B0.lt
   have Be : Bx Bd (wr.heap.size) 99 #[.bool Cm, .slice Ca Ci Ce, .slice By C6 C2, .bool Cn, .slice Cb Cj Cf, .slice Bz C7 C3, .bool false, .bool false] := by rw [hW]; exact (Bx.new0 _ _ _)
   replace hs := hs.trans (hG.below0 hs.size)
   revert Bh; revert h9; revert Bj; revert Bi; revert Bg; revert Bf; revert B0; revert B1; revert Bc; revert B9; revert Bb; revert Ba; refine g0 hG ?_; intro Ba Bb B9 Bc B1 B0 Bf Bg Bi Bj h9 Bh
   clear hW hG
   have E6 := Be.lt
   with_reducible refine (pCmp Bi h9 (SzQ.fit SL2.out) (SzQ.fit (Ez.out 1))).mono ?_
   rintro e Bm ⟨rfl, hb⟩
   revert Bh; revert h9; revert Bj; revert Bi; revert Bg; revert Bf; revert Be; revert B0; revert B1; revert Bc; revert B9; revert Bb; revert Ba; refine mS hs hb ?_; clear hs hb; intro hs Ba Bb B9 Bc B1 B0 Be Bf Bg Bi Bj h9 Bh
   obtain ⟨Dr, Cp⟩ : ∃ s : Int, s = sgQ (L2 - (hfL A1 A2 L1 L2 1)) := ⟨_, rfl⟩
   rw [← Cp]
   replace Cp := Lib.hid Cp
   go_upto_if 63 with (fail)
   go_cut [64, 65] (fun kf64 kf65 wz => Below w.heap.size w wz ∧ Bx wz (w.heap.size) 31 #[.int .i64 a.1, .int .i64 a.2] ∧ Bx wz (w.heap.size + 1) 31 #[.int .i64 b.1, .int .i64 b.2] ∧ Bx wz (w.heap.size + 1 + 1) 41 #[.int .i64 p.1, .int .i64 p.2, .int .i64 q.1, .int .i64 q.2] ∧ Bx wz (w2.heap.size) 31 #[.int .i64 (b.1 - a.1), .int .i64 (b.2 - a.2)] ∧ Bx wz (w5.heap.size + 1) 35 #[.bool Bt, .slice Bq Bs Br, .slice Bn Bp Bo] ∧ Bx wz (wr.heap.size) 99 #[.bool Cm, .slice Ca Ci Ce, .slice By C6 C2, .bool Cn, .slice Cb Cj Cf, .slice Bz C7 C3, .bool false, .bool false] ∧ PV wz (.agg #[.bool Ck, .slice C8 Cg Cc, .slice Bv C4 C0]) (L1) ∧ PV wz (.agg #[.bool Cl, .slice C9 Ch Cd, .slice Bw C5 C1]) (H1) ∧ PV wz (.agg #[.bool Cm, .slice Ca Ci Ce, .slice By C6 C2]) (L2) ∧ PV wz (.agg #[.bool Cn, .slice Cb Cj Cf, .slice Bz C7 C3]) (H2) ∧ PV wz (.agg #[.bool Bt, .slice Bq Bs Br, .slice Bn Bp Bo]) (hgH A1 A2 H1 H2 1) ∧ BoxP wz (w5.heap.size) (mxR (hfL A1 A2 L1 L2 1) L2))
   case first =>
    by_cases q15 : hfL A1 A2 L1 L2 1 < L2
    ·have Eu : 0 < Dr := by have h := sq_gt L2 (hfL A1 A2 L1 L2 1); rw [← Cp.out] at h; exact h.2 q15
     have Et := Lib.hid q15
     clear q15
     have Ev : decide (0 < Dr) = true := decide_eq_true Eu
     try simp only [Ev]
     have D9 := Be.a0
     have Da := Be.a1
     have Db := Be.a2
     have Dc := Be.a3
     have Dd := Be.a4
     have De := Be.a5
     have Df := Be.a6
     have Dh := Be.a7
     have Lt := Be.lt
     refine B1.k3fl fun B6 B7 B8 Jt Er => ?_
     go_wp2_with fail
     go_meet
     refine meetP (P := fun wz => Below w.heap.size w wz ∧ Bx wz (w.heap.size) 31 #[.int .i64 a.1, .int .i64 a.2] ∧ Bx wz (w.heap.size + 1) 31 #[.int .i64 b.1, .int .i64 b.2] ∧ Bx wz (w.heap.size + 1 + 1) 41 #[.int .i64 p.1, .int .i64 p.2, .int .i64 q.1, .int .i64 q.2] ∧ Bx wz (w2.heap.size) 31 #[.int .i64 (b.1 - a.1), .int .i64 (b.2 - a.2)] ∧ Bx wz (w5.heap.size + 1) 35 #[.bool Bt, .slice Bq Bs Br, .slice Bn Bp Bo] ∧ Bx wz (wr.heap.size) 99 #[.bool Cm, .slice Ca Ci Ce, .slice By C6 C2, .bool Cn, .slice Cb Cj Cf, .slice Bz C7 C3, .bool false, .bool false] ∧ PV wz (.agg #[.bool Ck, .slice C8 Cg Cc, .slice Bv C4 C0]) (L1) ∧ PV wz (.agg #[.bool Cl, .slice C9 Ch Cd, .slice Bw C5 C1]) (H1) ∧ PV wz (.agg #[.bool Cm, .slice Ca Ci Ce, .slice By C6 C2]) (L2) ∧ PV wz (.agg #[.bool Cn, .slice Cb Cj Cf, .slice Bz C7 C3]) (H2) ∧ PV wz (.agg #[.bool Bt, .slice Bq Bs Br, .slice Bn Bp Bo]) (hgH A1 A2 H1 H2 1) ∧ BoxP wz (w5.heap.size) (mxR (hfL A1 A2 L1 L2 1) L2)) ?_
     clear D9 Da Db Dc Dd De Df Dh B6 B7 B8 Jt Lt Er
     intro Bl hW
     have hG : Gr [w5.heap.size] Bm Bl := by rw [hW]; exact (Gr.refl _ _).set.set.set
     have E5 := hs.size
     have Ju := B1.lt
     have hk := hG.keep ⟨⟨_, B1.ty, by decide⟩, True.intro⟩
     have Du : Bx Bl (w5.heap.size) 35 #[.bool Cm, .slice Ca Ci Ce, .slice By C6 C2] := by rw [hW]; exact B1.set3
     replace hs := hs.trans (hG.d1 hs.size)
     replace Ba := hG.b1 Ba
     replace Bb := hG.b1 Bb
     replace B9 := hG.b1 B9
     replace Bc := hG.b1 Bc
     replace B0 := hG.b1 B0
     replace Be := hG.b1 Be
     replace B1 := Du
     clear Du
     revert Bh; revert h9; revert Bj; revert Bi; revert Bg; revert Bf; refine ke hk ?_; intro Bf Bg Bi Bj h9 Bh
     clear hW hG hk E5 Ju
     exact ⟨hs, Ba, Bb, B9, Bc, B0, Be, Bf, Bg, Bi, Bj, Bh, ⟨_, _, _, _, _, _, _, B1, (Bi.of_eq (show _ = mxR _ _ from (if_pos Et.out).symm))⟩⟩
    have Eu : ¬ (0 < Dr) := by have h := sq_gt L2 (hfL A1 A2 L1 L2 1); rw [← Cp.out] at h; exact fun h1 => q15 (h.1 h1)
    have Et := Lib.hid q15
    clear q15
    have Ev : decide (0 < Dr) = false := decide_eq_false Eu
    try simp only [Ev]
    go_wp2_with fail
    go_meet
    exact ⟨hs, Ba, Bb, B9, Bc, B0, Be, Bf, Bg, Bi, Bj, Bh, ⟨_, _, _, _, _, _, _, B1, (h9.of_eq (show _ = mxR _ _ from (if_neg Et.out).symm))⟩⟩
   case rest =>
    clear hs Ba Bb B9 Bc B0 Be Bf Bg Bi Bj Bh
    obtain ⟨hs, Ba, Bb, B9, Bc, B0, Be, Bf, Bg, Bi, Bj, Bh, ⟨sh15, ah15, nh15, ch15, Ah15, Nh15, Ch15, B1, Do⟩⟩ := hcut
    have D9 := Be.a0
    have Da := Be.a1
    have Db := Be.a2
    have Dc := Be.a3
    have Dd := Be.a4
    have De := Be.a5
    have Df := Be.a6
    have Dh := Be.a7
    have Lt := Be.lt
    refine B0.k3l fun B3 B4 B5 Dq => ?_
    go_wp2_with fail
    clear D9 Da Db Dc Dd De Df Dh B3 B4 B5 Lt Dq
    with_reducible refine (pCmp Bj Bh (SzQ.fit SH2.out) (SzQ.fit (Jd.out 1))).mono ?_
    rintro e Bl ⟨rfl, hb⟩
    revert Do; revert Bh; revert Bj; revert Bi; revert Bg; revert Bf; revert B1; revert Be; revert B0; revert Bc; revert B9; revert Bb; revert Ba; refine mS hs hb ?_; clear hs hb; intro hs Ba Bb B9 Bc B0 Be B1 Bf Bg Bi Bj Bh Do
    obtain ⟨Ds, Cq⟩ : ∃ s : Int, s = sgQ (H2 - (hgH A1 A2 H1 H2 1)) := ⟨_, rfl⟩
    rw [← Cq]
    replace Cq := Lib.hid Cq
    by_cases q17 : H2 < hgH A1 A2 H1 H2 1
    ·have Ex : Ds < 0 := by have h := sq_lt H2 (hgH A1 A2 H1 H2 1); rw [← Cq.out] at h; exact h.2 q17
     have Ew := Lib.hid q17
     clear q17
     have Jz : decide (Ds < 0) = true := decide_eq_true Ex
     have D9 := Be.a0
     have Da := Be.a1
     have Db := Be.a2
     have Dc := Be.a3
     have Dd := Be.a4
     have De := Be.a5
     have Df := Be.a6
     have Dh := Be.a7
     have Lt := Be.lt
     refine B0.k3fl fun B3 B4 B5 Jg Dq => ?_
     go_upto_region 13 with fail
     clear D9 Da Db Dc Dd De Df Dh B3 B4 B5 Jg Lt Dq
     refine Code.abs ?_
     intro Dt hW
     have hG : Gr [w5.heap.size + 1] Bl Dt := by rw [hW]; exact (Gr.refl _ _).set.set.set
     have E5 := hs.size
     have Jh := B0.lt
     have hk := hG.keep ⟨⟨_, B0.ty, by decide⟩, True.intro⟩
     have Dm : Bx Dt (w5.heap.size + 1) 35 #[.bool Cn, .slice Cb Cj Cf, .slice Bz C7 C3] := by rw [hW]; exact B0.set3
     replace hs := hs.trans (hG.d1 hs.size)
     replace Ba := hG.b1 Ba
     replace Bb := hG.b1 Bb
     replace B9 := hG.b1 B9
     replace Bc := hG.b1 Bc
     replace Be := hG.b1 Be
     replace B1 := hG.b1 B1
     replace B0 := Dm
     clear Dm
     revert Do; revert Bh; revert Bj; revert Bi; revert Bg; revert Bf; refine ke hk ?_; intro Bf Bg Bi Bj Bh Do
     clear hW hG hk E5 Jh
     go_wp2
     go_roundw
     case rel => exact ⟨1 + 1, by omega, by go_num, hs, Ba, Bb, B9, Bc, Bf, Bg, Bi, Bj, ⟨_, _, _, _, _, _, _, B1, (Do.of_eq (show _ = hf1 _ _ _ from (if_neg Bu.out).symm))⟩, ⟨_, _, _, _, _, _, _, B0, (Bj.of_eq (show _ = hg1 _ _ _ from ((if_neg Bu.out).trans (if_pos Ew.out)).symm))⟩, (fun _ => Ey.out (by omega)), (fun _ => by first | trivial | rfl)⟩
     all_goals first | (simp [intOf]; done) | (simp [intOf]; omega)
    have Ex : ¬ (Ds < 0) := by have h := sq_lt H2 (hgH A1 A2 H1 H2 1); rw [← Cq.out] at h; exact fun h1 => q17 (h.1 h1)
    have Ew := Lib.hid q17
    clear q17
    have Jz : decide (Ds < 0) = false := decide_eq_false Ex
    go_wp2
    go_roundw
    case rel => exact ⟨1 + 1, by omega, by go_num, hs, Ba, Bb, B9, Bc, Bf, Bg, Bi, Bj, ⟨_, _, _, _, _, _, _, B1, (Do.of_eq (show _ = hf1 _ _ _ from (if_neg Bu.out).symm))⟩, ⟨_, _, _, _, _, _, _, B0, (Bh.of_eq (show _ = hg1 _ _ _ from ((if_neg Bu.out).trans (if_neg Ew.out)).symm))⟩, (fun _ => Ey.out (by omega)), (fun _ => by first | trivial | rfl)⟩
    all_goals first | (simp [intOf]; done) | (simp [intOf]; omega)
  have q11d : ((k : Int) < 2) = False := eq_false (by omega)
  obtain rfl : k = 2 := by omega
  go_upto_region 14 with fail
  obtain ⟨Ji, Dj⟩ : ∃ s : Int, s = sgQ ((hfL A1 A2 L1 L2 2) - (hgH A1 A2 H1 H2 2)) := ⟨_, rfl⟩
  replace Dj := Lib.hid Dj
  by_cases q13 : hfL A1 A2 L1 L2 2 < hgH A1 A2 H1 H2 2
  ·have Jw : Ji < 0 := by have h := sq_lt (hfL A1 A2 L1 L2 2) (hgH A1 A2 H1 H2 2); rw [← Dj.out] at h; exact h.2 q13
   have Bu := Lib.hid q13
   clear q13
   have q13d : decide (Ji < 0) = true := decide_eq_true Jw
   obtain ⟨Jj, Dp⟩ : ∃ s : Int, s = sgQ ((hfL A1 A2 L1 L2 2) - (((1 : Int) : Rat))) := ⟨_, rfl⟩
   replace Dp := Lib.hid Dp
   by_cases q16 : hfL A1 A2 L1 L2 2 < ((1 : Int) : Rat)
   ·have Jy : Jj < 0 := by have h := sq_lt (hfL A1 A2 L1 L2 2) (((1 : Int) : Rat)); rw [← Dp.out] at h; exact h.2 q16
    have Jx := Lib.hid q16
    clear q16
    have q16d : decide (Jj < 0) = true := decide_eq_true Jy
    obtain ⟨Jk, Ec⟩ : ∃ s : Int, s = sgQ (hgH A1 A2 H1 H2 2) := ⟨_, rfl⟩
    replace Ec := Lib.hid Ec
    by_cases q18 : 0 < hgH A1 A2 H1 H2 2
    ·have K1 : 0 < Jk := by have h := s1_pos (hgH A1 A2 H1 H2 2); rw [← Ec.out] at h; exact h.2 q18
     have K0 := Lib.hid q18
     clear q18
     have q18d : decide (0 < Jk) = true := decide_eq_true K1
     refine U_region (S := fun w' => w'.cell? ⟨w5.heap.size, 0, none⟩ = some (.bool D7) ∧ w'.cell? ⟨w5.heap.size, 1, none⟩ = some (.slice D4 D6 D5) ∧ w'.cell? ⟨w5.heap.size, 2, none⟩ = some (.slice D1 D3 D2) ∧ w'.cell? ⟨w5.heap.size + 1, 0, none⟩ = some (.bool Bt) ∧ w'.cell? ⟨w5.heap.size + 1, 1, none⟩ = some (.slice Bq Bs Br) ∧ w'.cell? ⟨w5.heap.size + 1, 2, none⟩ = some (.slice Bn Bp Bo)) (by kernel_rfl) 16 ?_
     refine AnyU.abs ?_
     intro Bd hW
     have hb : Below wr.heap.size wr Bd := by rw [hW]; exact bDrew _
     replace hs := bStep hs hb
     revert Bh; revert h9; revert Bj; revert Bi; revert Bg; revert Bf; revert B0; revert B1; revert Bc; revert B9; revert Bb; revert Ba; refine mo hb ?_; intro Ba Bb B9 Bc B1 B0 Bf Bg Bi Bj h9 Bh
     clear hb hW
     refine B1.k3 fun B6 B7 B8 => ?_
     refine B0.k3 fun B3 B4 B5 => ?_
     have hH := (show Bd.cell? ⟨w5.heap.size, 0, none⟩ = some (.bool D7) ∧ Bd.cell? ⟨w5.heap.size, 1, none⟩ = some (.slice D4 D6 D5) ∧ Bd.cell? ⟨w5.heap.size, 2, none⟩ = some (.slice D1 D3 D2) ∧ Bd.cell? ⟨w5.heap.size + 1, 0, none⟩ = some (.bool Bt) ∧ Bd.cell? ⟨w5.heap.size + 1, 1, none⟩ = some (.slice Bq Bs Br) ∧ Bd.cell? ⟨w5.heap.size + 1, 2, none⟩ = some (.slice Bn Bp Bo) from ⟨B6, B7, B8, B3, B4, B5⟩)
     refine U_tq 0 74 hH ?_
     simp only [LY]
     refine U_tq 1 75 hH ?_
     simp only [LY]
     clear hH
     refine U_on 2 fun K hK => ?_
     go_simp
     (with_reducible refine (pCmp h9 Bh (SzQ.fit (Ez.out 2)) (SzQ.fit (Jd.out 2))).mono ?_)
     rintro e Bm ⟨rfl, hb⟩
     replace hs := bStep hs hb
     revert Bh; revert h9; revert Bj; revert Bi; revert Bg; revert Bf; revert B0; revert B1; revert Bc; revert B9; revert Bb; revert Ba; refine mo hb ?_; intro Ba Bb B9 Bc B1 B0 Bf Bg Bi Bj h9 Bh
     replace B6 := cellK B6 hb
     replace B7 := cellK B7 hb
     replace B8 := cellK B8 hb
     replace B3 := cellK B3 hb
     replace B4 := cellK B4 hb
     replace B5 := cellK B5 hb
     clear hb
     rw [← Dj.out]
     try go_wp2_with fail
     refine hK.out _ _ ⟨B6, B7, B8, B3, B4, B5⟩ (fun hH => ?_)
     clear hK K
     try simp only [LY]
     refine U_tq 3 77 hH ?_
     simp only [LY]
     refine U_tq 4 78 hH ?_
     simp only [LY]
     refine U_tq 5 79 hH ?_
     simp only [LY]
     clear hH
     refine U_on 6 fun K hK => ?_
     go_simp
     (with_reducible refine (pl_num 1 _ ((show Wn 1000 1 from Wn.lit (by decide) (by decide)).mono (by decide))).mono ?_)
     rintro e Bl ⟨_, rfl, Cr, hb⟩
     obtain ⟨K8, K5, K7, K6, K2, K4, K3, rfl⟩ := Cr.shape
     replace hs := bStep hs hb
     revert Bh; revert h9; revert Bj; revert Bi; revert Bg; revert Bf; revert B0; revert B1; revert Bc; revert B9; revert Bb; revert Ba; refine mo hb ?_; intro Ba Bb B9 Bc B1 B0 Bf Bg Bi Bj h9 Bh
     replace B6 := cellK B6 hb
     replace B7 := cellK B7 hb
     replace B8 := cellK B8 hb
     replace B3 := cellK B3 hb
     replace B4 := cellK B4 hb
     replace B5 := cellK B5 hb
     clear hb
     try go_wp2_with fail
     refine hK.out _ _ ⟨B6, B7, B8, B3, B4, B5⟩ (fun hH => ?_)
     clear hK K
     try simp only [LY]
     clear hH
     refine U_on 7 fun K hK => ?_
     go_simp
     (with_reducible refine (pCmp h9 Cr (SzQ.fit (Ez.out 2)) (SzQ.fit (szN ((show Wn 1000 1 from Wn.lit (by decide) (by decide)).mono (by decide))))).mono ?_)
     rintro e Dt ⟨rfl, hb⟩
     replace hs := bStep hs hb
     revert Cr; revert Bh; revert h9; revert Bj; revert Bi; revert Bg; revert Bf; revert B0; revert B1; revert Bc; revert B9; revert Bb; revert Ba; refine mo hb ?_; intro Ba Bb B9 Bc B1 B0 Bf Bg Bi Bj h9 Bh Cr
     replace B6 := cellK B6 hb
     replace B7 := cellK B7 hb
     replace B8 := cellK B8 hb
     replace B3 := cellK B3 hb
     replace B4 := cellK B4 hb
     replace B5 := cellK B5 hb
     clear hb
     rw [← Dp.out]
     try go_wp2_with fail
     refine hK.out _ _ ⟨B6, B7, B8, B3, B4, B5⟩ (fun hH => ?_)
     clear hK K
     try simp only [LY]
     refine U_tq 8 82 hH ?_
     simp only [LY]
     refine U_tq 9 83 hH ?_
     simp only [LY]
     refine U_tq 10 84 hH ?_
     simp only [LY]
     refine U_tq 11 85 hH ?_
     simp only [LY]
     clear hH
     refine U_on 12 fun K hK => ?_
     go_simp
     (with_reducible refine (pSign Bh).mono ?_)
     rintro e w34 ⟨rfl, hb⟩
     replace hs := bStep hs hb
     revert Cr; revert Bh; revert h9; revert Bj; revert Bi; revert Bg; revert Bf; revert B0; revert B1; revert Bc; revert B9; revert Bb; revert Ba; refine mo hb ?_; intro Ba Bb B9 Bc B1 B0 Bf Bg Bi Bj h9 Bh Cr
     replace B6 := cellK B6 hb
     replace B7 := cellK B7 hb
     replace B8 := cellK B8 hb
     replace B3 := cellK B3 hb
     replace B4 := cellK B4 hb
     replace B5 := cellK B5 hb
     clear hb
     rw [← Ec.out]
     try go_wp2_with fail
     refine hK.out _ _ ⟨B6, B7, B8, B3, B4, B5⟩ (fun hH => ?_)
     clear hK K
     try simp only [LY]
     refine U_tq 13 87 hH ?_
     simp only [LY]
     refine U_tq 14 88 hH ?_
     simp only [LY]
     refine U_tq 15 10 hH ?_
     simp only [LY]
     clear hH
     refine U_endN (by kernel_rfl) ?_
     clear B6 B7 B8 B3 B4 B5
     have Es := Lib.hid (ht_fin (a := a) (b := b) (p := p) (q := q) (w := u) (h := v) (J4.out.symm.trans (Dk.out.symm.trans (Ey.out (by omega)))) (J5.out.symm.trans (Dl.out.symm.trans (Jc.out (by omega)))) (F := hfL A1 A2 L1 L2 2) (T := hgH A1 A2 H1 H2 2) (by rw [Dv.out, Dw.out, J2.out, J3.out]) (by rw [Dv.out, Dw.out, J0.out, J1.out]))
     go_wp2
     go_ret
     exact ⟨by rw [show hitB a b u v (p, q) = true from Es.out.2 ⟨Bu.out, Jx.out, K0.out⟩]; rfl, hs⟩
    have K1 : ¬ (0 < Jk) := by have h := s1_pos (hgH A1 A2 H1 H2 2); rw [← Ec.out] at h; exact fun h1 => q18 (h.1 h1)
    have K0 := Lib.hid q18
    clear q18
    have q18d : decide (0 < Jk) = false := decide_eq_false K1
    refine U_region (S := fun w' => w'.cell? ⟨w5.heap.size, 0, none⟩ = some (.bool D7) ∧ w'.cell? ⟨w5.heap.size, 1, none⟩ = some (.slice D4 D6 D5) ∧ w'.cell? ⟨w5.heap.size, 2, none⟩ = some (.slice D1 D3 D2) ∧ w'.cell? ⟨w5.heap.size + 1, 0, none⟩ = some (.bool Bt) ∧ w'.cell? ⟨w5.heap.size + 1, 1, none⟩ = some (.slice Bq Bs Br) ∧ w'.cell? ⟨w5.heap.size + 1, 2, none⟩ = some (.slice Bn Bp Bo)) (by kernel_rfl) 16 ?_
    refine AnyU.abs ?_
    intro Bd hW
    have hb : Below wr.heap.size wr Bd := by rw [hW]; exact bDrew _
    replace hs := bStep hs hb
    revert Bh; revert h9; revert Bj; revert Bi; revert Bg; revert Bf; revert B0; revert B1; revert Bc; revert B9; revert Bb; revert Ba; refine mo hb ?_; intro Ba Bb B9 Bc B1 B0 Bf Bg Bi Bj h9 Bh
    clear hb hW
    refine B1.k3 fun B6 B7 B8 => ?_
    refine B0.k3 fun B3 B4 B5 => ?_
    have hH := (show Bd.cell? ⟨w5.heap.size, 0, none⟩ = some (.bool D7) ∧ Bd.cell? ⟨w5.heap.size, 1, none⟩ = some (.slice D4 D6 D5) ∧ Bd.cell? ⟨w5.heap.size, 2, none⟩ = some (.slice D1 D3 D2) ∧ Bd.cell? ⟨w5.heap.size + 1, 0, none⟩ = some (.bool Bt) ∧ Bd.cell? ⟨w5.heap.size + 1, 1, none⟩ = some (.slice Bq Bs Br) ∧ Bd.cell? ⟨w5.heap.size + 1, 2, none⟩ = some (.slice Bn Bp Bo) from ⟨B6, B7, B8, B3, B4, B5⟩)
    refine U_tq 0 74 hH ?_
    simp only [LY]
    refine U_tq 1 75 hH ?_
    simp only [LY]
    clear hH
    refine U_on 2 fun K hK => ?_
    go_simp
    (with_reducible refine (pCmp h9 Bh (SzQ.fit (Ez.out 2)) (SzQ.fit (Jd.out 2))).mono ?_)
    rintro e Bm ⟨rfl, hb⟩
    replace hs := bStep hs hb
    revert Bh; revert h9; revert Bj; revert Bi; revert Bg; revert Bf; revert B0; revert B1; revert Bc; revert B9; revert Bb; revert Ba; refine mo hb ?_; intro Ba Bb B9 Bc B1 B0 Bf Bg Bi Bj h9 Bh
    replace B6 := cellK B6 hb
    replace B7 := cellK B7 hb
    replace B8 := cellK B8 hb
    replace B3 := cellK B3 hb
    replace B4 := cellK B4 hb
    replace B5 := cellK B5 hb
    clear hb
    rw [← Dj.out]
    try go_wp2_with fail
    refine hK.out _ _ ⟨B6, B7, B8, B3, B4, B5⟩ (fun hH => ?_)
    clear hK K
    try simp only [LY]
    refine U_tq 3 77 hH ?_
    simp only [LY]
    refine U_tq 4 78 hH ?_
    simp only [LY]
    refine U_tq 5 79 hH ?_
    simp only [LY]
    clear hH
    refine U_on 6 fun K hK => ?_
    go_simp
    (with_reducible refine (pl_num 1 _ ((show Wn 1000 1 from Wn.lit (by decide) (by decide)).mono (by decide))).mono ?_)
    rintro e Bl ⟨_, rfl, Cr, hb⟩
    obtain ⟨K8, K5, K7, K6, K2, K4, K3, rfl⟩ := Cr.shape
    replace hs := bStep hs hb
    revert Bh; revert h9; revert Bj; revert Bi; revert Bg; revert Bf; revert B0; revert B1; revert Bc; revert B9; revert Bb; revert Ba; refine mo hb ?_; intro Ba Bb B9 Bc B1 B0 Bf Bg Bi Bj h9 Bh
    replace B6 := cellK B6 hb
    replace B7 := cellK B7 hb
    replace B8 := cellK B8 hb
    replace B3 := cellK B3 hb
    replace B4 := cellK B4 hb
    replace B5 := cellK B5 hb
    clear hb
    try go_wp2_with fail
    refine hK.out _ _ ⟨B6, B7, B8, B3, B4, B5⟩ (fun hH => ?_)
    clear hK K
    try simp only [LY]
    clear hH
    refine U_on 7 fun K hK => ?_
    go_simp
    (with_reducible refine (pCmp h9 Cr (SzQ.fit (Ez.out 2)) (SzQ.fit (szN ((show Wn 1000 1 from Wn.lit (by decide) (by decide)).mono (by decide))))).mono ?_)
    rintro e Dt ⟨rfl, hb⟩
    replace hs := bStep hs hb
    revert Cr; revert Bh; revert h9; revert Bj; revert Bi; revert Bg; revert Bf; revert B0; revert B1; revert Bc; revert B9; revert Bb; revert Ba; refine mo hb ?_; intro Ba Bb B9 Bc B1 B0 Bf Bg Bi Bj h9 Bh Cr
    replace B6 := cellK B6 hb
    replace B7 := cellK B7 hb
    replace B8 := cellK B8 hb
    replace B3 := cellK B3 hb
    replace B4 := cellK B4 hb
    replace B5 := cellK B5 hb
    clear hb
    rw [← Dp.out]
    try go_wp2_with fail
    refine hK.out _ _ ⟨B6, B7, B8, B3, B4, B5⟩ (fun hH => ?_)
    clear hK K
    try simp only [LY]
    refine U_tq 8 82 hH ?_
    simp only [LY]
    refine U_tq 9 83 hH ?_
    simp only [LY]
    refine U_tq 10 84 hH ?_
    simp only [LY]
    refine U_tq 11 85 hH ?_
    simp only [LY]
    clear hH
    refine U_on 12 fun K hK => ?_
    go_simp
    (with_reducible refine (pSign Bh).mono ?_)
    rintro e w34 ⟨rfl, hb⟩
    replace hs := bStep hs hb
    revert Cr; revert Bh; revert h9; revert Bj; revert Bi; revert Bg; revert Bf; revert B0; revert B1; revert Bc; revert B9; revert Bb; revert Ba; refine mo hb ?_; intro Ba Bb B9 Bc B1 B0 Bf Bg Bi Bj h9 Bh Cr
    replace B6 := cellK B6 hb
    replace B7 := cellK B7 hb
    replace B8 := cellK B8 hb
    replace B3 := cellK B3 hb
    replace B4 := cellK B4 hb
    replace B5 := cellK B5 hb
    clear hb
    rw [← Ec.out]
    try go_wp2_with fail
    refine hK.out _ _ ⟨B6, B7, B8, B3, B4, B5⟩ (fun hH => ?_)
    clear hK K
    try simp only [LY]
    refine U_tq 13 87 hH ?_
    simp only [LY]
    refine U_tq 14 88 hH ?_
    simp only [LY]
    refine U_tq 15 10 hH ?_
    simp only [LY]
    clear hH
    refine U_endN (by kernel_rfl) ?_
    clear B6 B7 B8 B3 B4 B5
    have Es := Lib.hid (ht_fin (a := a) (b := b) (p := p) (q := q) (w := u) (h := v) (J4.out.symm.trans (Dk.out.symm.trans (Ey.out (by omega)))) (J5.out.symm.trans (Dl.out.symm.trans (Jc.out (by omega)))) (F := hfL A1 A2 L1 L2 2) (T := hgH A1 A2 H1 H2 2) (by rw [Dv.out, Dw.out, J2.out, J3.out]) (by rw [Dv.out, Dw.out, J0.out, J1.out]))
    go_wp2
    go_ret
    exact ⟨by rw [show hitB a b u v (p, q) = false from Bool.eq_false_iff.2 (fun h => K0.out (Es.out.1 h).2.2)]; rfl, hs⟩
   have Jy : ¬ (Jj < 0) := by have h := sq_lt (hfL A1 A2 L1 L2 2) (((1 : Int) : Rat)); rw [← Dp.out] at h; exact fun h1 => q16 (h.1 h1)
   have Jx := Lib.hid q16
   clear q16
   have q16d : decide (Jj < 0) = false := decide_eq_false Jy
   refine U_region (S := fun w' => w'.cell? ⟨w5.heap.size, 0, none⟩ = some (.bool D7) ∧ w'.cell? ⟨w5.heap.size, 1, none⟩ = some (.slice D4 D6 D5) ∧ w'.cell? ⟨w5.heap.size, 2, none⟩ = some (.slice D1 D3 D2) ∧ w'.cell? ⟨w5.heap.size + 1, 0, none⟩ = some (.bool Bt) ∧ w'.cell? ⟨w5.heap.size + 1, 1, none⟩ = some (.slice Bq Bs Br) ∧ w'.cell? ⟨w5.heap.size + 1, 2, none⟩ = some (.slice Bn Bp Bo)) (by kernel_rfl) 16 ?_
   refine AnyU.abs ?_
   intro Bd hW
   have hb : Below wr.heap.size wr Bd := by rw [hW]; exact bDrew _
   replace hs := bStep hs hb
   revert Bh; revert h9; revert Bj; revert Bi; revert Bg; revert Bf; revert B0; revert B1; revert Bc; revert B9; revert Bb; revert Ba; refine mo hb ?_; intro Ba Bb B9 Bc B1 B0 Bf Bg Bi Bj h9 Bh
   clear hb hW
   refine B1.k3 fun B6 B7 B8 => ?_
   refine B0.k3 fun B3 B4 B5 => ?_
   have hH := (show Bd.cell? ⟨w5.heap.size, 0, none⟩ = some (.bool D7) ∧ Bd.cell? ⟨w5.heap.size, 1, none⟩ = some (.slice D4 D6 D5) ∧ Bd.cell? ⟨w5.heap.size, 2, none⟩ = some (.slice D1 D3 D2) ∧ Bd.cell? ⟨w5.heap.size + 1, 0, none⟩ = some (.bool Bt) ∧ Bd.cell? ⟨w5.heap.size + 1, 1, none⟩ = some (.slice Bq Bs Br) ∧ Bd.cell? ⟨w5.heap.size + 1, 2, none⟩ = some (.slice Bn Bp Bo) from ⟨B6, B7, B8, B3, B4, B5⟩)
   refine U_tq 0 74 hH ?_
   simp only [LY]
   refine U_tq 1 75 hH ?_
   simp only [LY]
   clear hH
   refine U_on 2 fun K hK => ?_
   go_simp
   (with_reducible refine (pCmp h9 Bh (SzQ.fit (Ez.out 2)) (SzQ.fit (Jd.out 2))).mono ?_)
   rintro e Bm ⟨rfl, hb⟩
   replace hs := bStep hs hb
   revert Bh; revert h9; revert Bj; revert Bi; revert Bg; revert Bf; revert B0; revert B1; revert Bc; revert B9; revert Bb; revert Ba; refine mo hb ?_; intro Ba Bb B9 Bc B1 B0 Bf Bg Bi Bj h9 Bh
   replace B6 := cellK B6 hb
   replace B7 := cellK B7 hb
   replace B8 := cellK B8 hb
   replace B3 := cellK B3 hb
   replace B4 := cellK B4 hb
   replace B5 := cellK B5 hb
   clear hb
   rw [← Dj.out]
   try go_wp2_with fail
   refine hK.out _ _ ⟨B6, B7, B8, B3, B4, B5⟩ (fun hH => ?_)
   clear hK K
   try simp only [LY]
   refine U_tq 3 77 hH ?_
   simp only [LY]
   refine U_tq 4 78 hH ?_
   simp only [LY]
   refine U_tq 5 79 hH ?_
   simp only [LY]
   clear hH
   refine U_on 6 fun K hK => ?_
   go_simp
   (with_reducible refine (pl_num 1 _ ((show Wn 1000 1 from Wn.lit (by decide) (by decide)).mono (by decide))).mono ?_)
   rintro e Bl ⟨_, rfl, Cr, hb⟩
   obtain ⟨K8, K5, K7, K6, K2, K4, K3, rfl⟩ := Cr.shape
   replace hs := bStep hs hb
   revert Bh; revert h9; revert Bj; revert Bi; revert Bg; revert Bf; revert B0; revert B1; revert Bc; revert B9; revert Bb; revert Ba; refine mo hb ?_; intro Ba Bb B9 Bc B1 B0 Bf Bg Bi Bj h9 Bh
   replace B6 := cellK B6 hb
   replace B7 := cellK B7 hb
   replace B8 := cellK B8 hb
   replace B3 := cellK B3 hb
   replace B4 := cellK B4 hb
   replace B5 := cellK B5 hb
   clear hb
   try go_wp2_with fail
   refine hK.out _ _ ⟨B6, B7, B8, B3, B4, B5⟩ (fun hH => ?_)
   clear hK K
   try simp only [LY]
   clear hH
   refine U_on 7 fun K hK => ?_
   go_simp
   (with_reducible refine (pCmp h9 Cr (SzQ.fit (Ez.out 2)) (SzQ.fit (szN ((show Wn 1000 1 from Wn.lit (by decide) (by decide)).mono (by decide))))).mono ?_)
   rintro e Dt ⟨rfl, hb⟩
   replace hs := bStep hs hb
   revert Cr; revert Bh; revert h9; revert Bj; revert Bi; revert Bg; revert Bf; revert B0; revert B1; revert Bc; revert B9; revert Bb; revert Ba; refine mo hb ?_; intro Ba Bb B9 Bc B1 B0 Bf Bg Bi Bj h9 Bh Cr
   replace B6 := cellK B6 hb
   replace B7 := cellK B7 hb
   replace B8 := cellK B8 hb
   replace B3 := cellK B3 hb
   replace B4 := cellK B4 hb
   replace B5 := cellK B5 hb
   clear hb
   rw [← Dp.out]
   try go_wp2_with fail
   refine hK.out _ _ ⟨B6, B7, B8, B3, B4, B5⟩ (fun hH => ?_)
   clear hK K
   try simp only [LY]
   refine U_tq 8 82 hH ?_
   simp only [LY]
   refine U_tq 9 83 hH ?_
   simp only [LY]
   refine U_tq 10 84 hH ?_
   simp only [LY]
   refine U_tu 11 85 hH ?_
   simp only [LY]
   clear hH
   refine U_on 12 fun K hK => ?_
   go_simp
   refine hK.out _ _ ⟨B6, B7, B8, B3, B4, B5⟩ (fun hH => ?_)
   clear hK K
   try simp only [LY]
   refine U_tu 13 87 hH ?_
   simp only [LY]
   refine U_tq 14 88 hH ?_
   simp only [LY]
   refine U_tq 15 10 hH ?_
   simp only [LY]
   clear hH
   refine U_endN (by kernel_rfl) ?_
   clear B6 B7 B8 B3 B4 B5
   have Es := Lib.hid (ht_fin (a := a) (b := b) (p := p) (q := q) (w := u) (h := v) (J4.out.symm.trans (Dk.out.symm.trans (Ey.out (by omega)))) (J5.out.symm.trans (Dl.out.symm.trans (Jc.out (by omega)))) (F := hfL A1 A2 L1 L2 2) (T := hgH A1 A2 H1 H2 2) (by rw [Dv.out, Dw.out, J2.out, J3.out]) (by rw [Dv.out, Dw.out, J0.out, J1.out]))
   go_wp2
   go_ret
   exact ⟨by rw [show hitB a b u v (p, q) = false from Bool.eq_false_iff.2 (fun h => Jx.out (Es.out.1 h).2.1)]; rfl, hs⟩
  have Jw : ¬ (Ji < 0) := by have h := sq_lt (hfL A1 A2 L1 L2 2) (hgH A1 A2 H1 H2 2); rw [← Dj.out] at h; exact fun h1 => q13 (h.1 h1)
  have Bu := Lib.hid q13
  clear q13
  have q13d : decide (Ji < 0) = false := decide_eq_false Jw
  refine U_region (S := fun w' => w'.cell? ⟨w5.heap.size, 0, none⟩ = some (.bool D7) ∧ w'.cell? ⟨w5.heap.size, 1, none⟩ = some (.slice D4 D6 D5) ∧ w'.cell? ⟨w5.heap.size, 2, none⟩ = some (.slice D1 D3 D2) ∧ w'.cell? ⟨w5.heap.size + 1, 0, none⟩ = some (.bool Bt) ∧ w'.cell? ⟨w5.heap.size + 1, 1, none⟩ = some (.slice Bq Bs Br) ∧ w'.cell? ⟨w5.heap.size + 1, 2, none⟩ = some (.slice Bn Bp Bo)) (by kernel_rfl) 16 ?_
  refine AnyU.abs ?_
  intro Bd hW
  have hb : Below wr.heap.size wr Bd := by rw [hW]; exact bDrew _
  replace hs := bStep hs hb
  revert Bh; revert h9; revert Bj; revert Bi; revert Bg; revert Bf; revert B0; revert B1; revert Bc; revert B9; revert Bb; revert Ba; refine mo hb ?_; intro Ba Bb B9 Bc B1 B0 Bf Bg Bi Bj h9 Bh
  clear hb hW
  refine B1.k3 fun B6 B7 B8 => ?_
  refine B0.k3 fun B3 B4 B5 => ?_
  have hH := (show Bd.cell? ⟨w5.heap.size, 0, none⟩ = some (.bool D7) ∧ Bd.cell? ⟨w5.heap.size, 1, none⟩ = some (.slice D4 D6 D5) ∧ Bd.cell? ⟨w5.heap.size, 2, none⟩ = some (.slice D1 D3 D2) ∧ Bd.cell? ⟨w5.heap.size + 1, 0, none⟩ = some (.bool Bt) ∧ Bd.cell? ⟨w5.heap.size + 1, 1, none⟩ = some (.slice Bq Bs Br) ∧ Bd.cell? ⟨w5.heap.size + 1, 2, none⟩ = some (.slice Bn Bp Bo) from ⟨B6, B7, B8, B3, B4, B5⟩)
  refine U_tq 0 74 hH ?_
  simp only [LY]
  refine U_tq 1 75 hH ?_
  simp only [LY]
  clear hH
  refine U_on 2 fun K hK => ?_
  go_simp
  (with_reducible refine (pCmp h9 Bh (SzQ.fit (Ez.out 2)) (SzQ.fit (Jd.out 2))).mono ?_)
  rintro e Bm ⟨rfl, hb⟩
  replace hs := bStep hs hb
  revert Bh; revert h9; revert Bj; revert Bi; revert Bg; revert Bf; revert B0; revert B1; revert Bc; revert B9; revert Bb; revert Ba; refine mo hb ?_; intro Ba Bb B9 Bc B1 B0 Bf Bg Bi Bj h9 Bh
  replace B6 := cellK B6 hb
  replace B7 := cellK B7 hb
  replace B8 := cellK B8 hb
  replace B3 := cellK B3 hb
  replace B4 := cellK B4 hb
  replace B5 := cellK B5 hb
  clear hb
  rw [← Dj.out]
  try go_wp2_with fail
  refine hK.out _ _ ⟨B6, B7, B8, B3, B4, B5⟩ (fun hH => ?_)
  clear hK K
  try simp only [LY]
  refine U_tq 3 77 hH ?_
  simp only [LY]
  refine U_tq 4 78 hH ?_
  simp only [LY]
  refine U_tu 5 79 hH ?_
  simp only [LY]
  clear hH
  refine U_on 6 fun K hK => ?_
  go_simp
  refine hK.out _ _ ⟨B6, B7, B8, B3, B4, B5⟩ (fun hH => ?_)
  clear hK K
  try simp only [LY]
  clear hH
  refine U_on 7 fun K hK => ?_
  go_simp
  refine hK.out _ _ ⟨B6, B7, B8, B3, B4, B5⟩ (fun hH => ?_)
  clear hK K
  try simp only [LY]
  refine U_tu 8 82 hH ?_
  simp only [LY]
  refine U_tq 9 83 hH ?_
  simp only [LY]
  refine U_tq 10 84 hH ?_
  simp only [LY]
  refine U_tu 11 85 hH ?_
  simp only [LY]
  clear hH
  refine U_on 12 fun K hK => ?_
  go_simp
  refine hK.out _ _ ⟨B6, B7, B8, B3, B4, B5⟩ (fun hH => ?_)
  clear hK K
  try simp only [LY]
  refine U_tu 13 87 hH ?_
  simp only [LY]
  refine U_tq 14 88 hH ?_
  simp only [LY]
  refine U_tq 15 10 hH ?_
  simp only [LY]
  clear hH
  refine U_endN (by kernel_rfl) ?_
  clear B6 B7 B8 B3 B4 B5
  have Es := Lib.hid (ht_fin (a := a) (b := b) (p := p) (q := q) (w := u) (h := v) (J4.out.symm.trans (Dk.out.symm.trans (Ey.out (by omega)))) (J5.out.symm.trans (Dl.out.symm.trans (Jc.out (by omega)))) (F := hfL A1 A2 L1 L2 2) (T := hgH A1 A2 H1 H2 2) (by rw [Dv.out, Dw.out, J2.out, J3.out]) (by rw [Dv.out, Dw.out, J0.out, J1.out]))
  go_wp2
  go_ret
  exact ⟨by rw [show hitB a b u v (p, q) = false from Bool.eq_false_iff.2 (fun h => Bu.out (Es.out.1 h).1)]; rfl, hs⟩
end Go.Proofs.YtbnomdlojmgigaaGreat
