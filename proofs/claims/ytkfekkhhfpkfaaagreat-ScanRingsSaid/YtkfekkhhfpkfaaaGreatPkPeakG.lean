/-
  scan.exact: the exact values of a trace, over the contract of ratio.Float at its samples.
-/
import Derived.Test.YtkfekkhhfpkfaaaGreatPkFloatG
import Derived.Test.YtkfekkhhfpkfaaaGreatPkLawG
import Derived.Test.YtkfekkhhfpkfaaaGreatPkMemG
set_option linter.unusedSimpArgs false
set_option linter.unusedVariables false
set_option maxRecDepth 100000
set_option maxHeartbeats 16000000
namespace Go.Proofs.YtkfekkhhfpkfaaaGreat
open Go.RowKit Dg
attribute [local go_sem ↓] Go.wp_at_zero Go.wp_at_succ
def FlOk (x : Nat × Rat) : Prop := ∃ b', (∀ w : World, (convert 45 55 (.float .f32 x.1)).run Tryz.prog w = .ok (.float .f64 b') w) ∧ ∀ w : World, Calls Tryz.prog 16 #[.float .f64 b'] w (RetPE w x.2 0)
def F32 (_ : World) (cs : List Value) (x : Nat × Rat) : Prop := cs = [.float .f32 x.1]
theorem F32.kept : Kept F32 := fun _ _ _ _ h _ => h
theorem ratio_info : (Tryz.prog.info? 32).map (fun i => (i.zero, i.size, i.bytes)) = some (some (.agg #[.bool false, .slice none 0 0, .slice none 0 0]), 3, 56) := by kernel_rfl
theorem sc_exact_own (v : Value) (l : List (Nat × Rat)) (w : World) (hl : RowsI 1 F32 w v l) (h256 : l.length ≤ 256) (hok : ∀ x ∈ l, FlOk x) :
  Calls Tryz.prog 67 #[v] w (Ret2 (fun w2 v => OwnR w.heap.size 32 3 PC w2 v (l.map Prod.snd)) (fun _ v => v = .int .i64 0) w) := by
 obtain ⟨ao, cap, rfl, hc1, hc2, hc3⟩ := hl.slice
 have hs := Below.refl w.heap.size w
 have HL := Lib.hid hl
 have HOK := Lib.hid hok
 obtain ⟨i0, hi, hz0, hz1, hz2⟩ := info_parts ratio_info
 clear hl hok
 go_enter Tryz.func67, Tryz.ntmps67
 go_wp2
 go_loopw [4, 14] (fun av iv wq => ∃ k : Nat, k ≤ l.length ∧ iv = .int .i64 k ∧ Below w.heap.size w wq ∧ OwnR w.heap.size 32 3 PC wq av ((l.take k).map Prod.snd)) (fun _ iv _ => l.length - (intOf iv).toNat)
 case atStart => exact ⟨0, Nat.zero_le _, rfl, hs, OwnR.nil _ _ _ _ _⟩
 case round =>
  obtain ⟨k, hk, rfl, hs, Opa⟩ := hrel
  by_cases hlt : k < l.length
  ·obtain ⟨⟨b32, q⟩, hx⟩ : ∃ x, l[k]? = some x := ⟨_, List.getElem?_eq_getElem hlt⟩
   obtain ⟨b, o, c, cs, hv, hlen, hat, rfl⟩ := (HL.out.mono F32.kept hs).get hx
   obtain ⟨rfl, rfl⟩ := sliceE hv
   obtain ⟨b64, hcv, hfl⟩ := HOK.out _ (List.mem_of_getElem? hx)
   have e0 := hat 0 _ rfl
   clear hat
   simp only [Nat.add_zero, Nat.mul_one] at e0
   have HM := Lib.hid (map_take Prod.snd l k _ hx)
   have hlm : ((l.take k).map Prod.snd).length = k := by rw [List.length_map, List.length_take]; omega
   have HFL := Lib.hid hfl
   clear hx hv hlen hfl
   dsimp only at e0 hcv
   go_wp2_with fail
   refine (HFL.out _).mono ?_
   rintro e w21 ⟨_, rfl, hq, hb⟩
   obtain ⟨shq, ahq, nhq, chq, Ahq, Nhq, Chq, rfl⟩ := hq.shape
   replace hs := bStep hs hb
   replace Opa := Opa.mono PC.kept hb
   clear hb e0 hcv
   go_wp2_with (at_builtin; refine wpList.stop ?_)
   refine ⟨?_⟩
   refine wpList.abs ?_
   intro w22 hW
   have hsz := hs.size
   have hbw : Below w.heap.size w21 w22 := by rw [hW]; exact (Below.alloc (Below.alloc (Below.refl w.heap.size w21) (by first | exact hs.size | (have := hs.size; simp; done) | (have := hs.size; simp; omega)) _) (by first | exact hs.size | (have := hs.size; simp; done) | (have := hs.size; simp; omega)) _)
   have hs1 : Below w.heap.size w w22 := hs.trans hbw
   have hk : KeepD w21 w22 := by rw [hW]; exact (((KeepD.refl _).alloc _).alloc _)
   have hb1 : Below w21.heap.size w21 w22 := by rw [hW]; exact (Below.alloc (Below.alloc (Below.refl _ _) (by first | exact Nat.le_refl _ | (simp; done) | (simp; omega)) _) (by first | exact Nat.le_refl _ | (simp; done) | (simp; omega)) _)
   have Bl1x : Bx w22 (w21.heap.size) 32 #[.bool shq, .slice ahq nhq chq, .slice Ahq Nhq Chq] := by rw [hW]; exact ((Bx.new' _ _ _ _ (by first | rfl | (simp; done))).alloc _)
   have Bl1e : Bx w22 (w21.heap.size + 1) 32 #[.bool shq, .slice ahq nhq chq, .slice Ahq Nhq Chq] := by rw [hW]; exact (Bx.new' _ _ _ _ (by first | rfl | (simp; done)))
   replace hs := hs1
   clear hs1
   have Blx := Bl1x
   clear Bl1x
   have Ble := Bl1e
   clear Bl1e
   replace hq := hq.keep hk
   replace Opa := Opa.mono PC.kept hb1
   clear hb1
   clear hW hk hsz hbw
   have hz_w22 := Ble.lt
   obtain ⟨css, ho1, ho2, ho3, hown0⟩ := Opa
   refine wpList_append_lies _ rfl _ _ _ rfl w.heap.size 32 i0 _ 3 56 Tryz.underlying25 hi hz0 hz1 hz2 rfl (by omega) _ _ css.flatten rfl hown0 ⟨w21.heap.size + 1, 0, none⟩ 1 1 [.bool shq, .slice ahq nhq chq, .slice Ahq Nhq Chq] rfl rfl Ble.news ?_ (by omega) ?_ ?_ ?_ _ rfl ?_
   ·intro u hu; simp only [List.mem_cons, List.mem_nil_iff, or_false] at hu; rcases hu with rfl | rfl | rfl <;> rfl
   ·unfold maxLen; omega
   ·omega
   ·exact hs.size
   intro gpa cappa w23 hown1 hgrow hat hlt_
   have hk_ := KeepD.owns hown0 hgrow (by decide)
   have ho := owns_onlyT hown0 hgrow
   replace hs := hs.grown hgrow hs.size (fun k hk => (hown0.lt k hk).1)
   replace Opa := OwnR.push PC.kept ho1 ho2 ho3 (x := q) rfl ⟨_, _, _, rfl, hq⟩ hown1 hk_
   replace hq := hq.keep hk_
   clear hk_ ho ho1 ho2 ho3 hown0 hown1 hgrow hat hlt_ Blx Ble
   go_wp2
   go_roundw
   case rel => exact ⟨k + 1, by omega, by go_num, hs, by rw [HM.out]; rw [hlm] at Opa; exact Opa⟩
   all_goals first | (simp [intOf]; done) | (simp [intOf]; omega)
  ·rw [List.take_of_length_le (by omega)] at Opa
   have O1 := Lib.hid Opa
   clear Opa
   go_wp2
   go_ret2
   exact ⟨_, _, rfl, O1.out, rfl, hs⟩
theorem sc_exact_ok (v : Value) (l : List (Nat × Rat)) (w : World) (hl : RowsI 1 F32 w v l) (h256 : l.length ≤ 256) (hok : ∀ x ∈ l, FlOk x) :
  Calls Tryz.prog 67 #[v] w (Ret2 (fun w v => Rows 3 32 PC w v (l.map Prod.snd)) (fun _ v => v = .int .i64 0) w) := by
 refine (sc_exact_own v l w hl h256 hok).mono ?_
 rintro e w1 ⟨_, _, rfl, h1, h2, h3⟩
 exact ⟨_, _, rfl, h1.rows, h2, h3⟩
end Go.Proofs.YtkfekkhhfpkfaaaGreat
namespace Go.Proofs.YtkfekkhhfpkfaaaGreat
open Go.RowKit Dg
attribute [local go_sem ↓] Go.wp_at_zero Go.wp_at_succ
def atQ (L : List Rat) (i : Nat) : Rat := L.getD i 0
def pkA (L : List Rat) (f : Nat) : Nat → Nat
 | 0 => f
 | k + 1 => if absQ (atQ L (pkA L f k)) < absQ (atQ L (f + k)) then f + k else pkA L f k
theorem pkA_succ (L : List Rat) (f k : Nat) : pkA L f (k + 1) = if absQ (atQ L (pkA L f k)) < absQ (atQ L (f + k)) then f + k else pkA L f k := rfl
theorem pkA_le (L : List Rat) (f : Nat) : ∀ k, f ≤ pkA L f k ∧ pkA L f k ≤ f + (k - 1)
 | 0 => ⟨Nat.le_refl _, by show f ≤ _; omega⟩
 | k + 1 => by
  have ih := pkA_le L f k
  rw [pkA_succ]
  split <;> omega
theorem atQ_some {L : List Rat} {i : Nat} (h : i < L.length) : L[i]? = some (atQ L i) := by unfold atQ; rw [List.getD_eq_getElem?_getD, List.getElem?_eq_getElem h]; rfl
theorem sgQ_gt (x y : Rat) : 0 < sgQ (x - y) ↔ y < x := by
 have h := sgQ_le (x - y)
 have : 0 < x - y ↔ y < x := by
  rw [Rat.sub_eq_add_neg, Rat.lt_iff_sub_pos y x, Rat.sub_eq_add_neg]
 rw [← this]
 constructor
 ·intro h1; by_cases hc : 0 < x - y
  ·exact hc
  ·exact absurd (h.2 hc) (by omega)
 ·intro h1; by_cases hc : 0 < sgQ (x - y)
  ·exact hc
  ·exact absurd h1 (h.1 (by omega))
theorem sgQ_sub_lt (x y : Rat) : sgQ (x - y) < 0 ↔ x < y := by
 have e : (0 : Rat) - (x - y) = y - x := by simp [Rat.sub_eq_add_neg, Rat.neg_add, Rat.add_comm, Rat.zero_add, Rat.add_zero]
 rw [sgQ_lt, Rat.lt_iff_sub_pos, e, ← Rat.lt_iff_sub_pos]
theorem absQ_fit {x : Rat} (h : Fit x) : Fit (absQ x) := by
 unfold absQ
 split
 ·unfold Fit SzQ at h ⊢; rw [Rat.neg_num, Int.natAbs_neg, Rat.neg_den]; exact h
 ·exact h
def pkN (L : List Rat) (f t : Nat) (lv : Rat) : Int := if absQ (atQ L (pkA L f (t - f))) < lv then 0 else (pkA L f (t - f) : Nat)
def pkV (L : List Rat) (f t : Nat) (lv : Rat) : Rat := if absQ (atQ L (pkA L f (t - f))) < lv then 0 else absQ (atQ L (pkA L f (t - f)))
def pkE (L : List Rat) (f t : Nat) (lv : Rat) : Int := if absQ (atQ L (pkA L f (t - f))) < lv then 70 else 0
theorem PC.openC {w : World} {cs : List Value} {x : Rat} (h : PC w cs x) : ∃ g a n c A N D, cs = [.bool g, .slice a n c, .slice A N D] ∧ PV w (.agg #[.bool g, .slice a n c, .slice A N D]) x := by
 obtain ⟨_, _, _, rfl, h⟩ := h
 obtain ⟨g, a, n, c, A, N, D, e⟩ := h.shape
 obtain ⟨rfl, rfl, rfl⟩ := agg3 e
 exact ⟨g, a, n, c, A, N, D, rfl, h⟩
theorem rowsB3 (v : Value) (W W' : World) {l : List Rat} (h : Rows 3 32 PC W v l) (hb : Below W.heap.size W W') : Rows 3 32 PC W' v l := h.mono PC.kept hb
theorem belowJ (A W W' : World) (h : Below A.heap.size A W) (hb : Below W.heap.size W W') : Below A.heap.size A W' := bStep h hb
theorem results_tct {fn : Func} {u p s : Tmp} {ty : TypeId} (h : fn.results = #[.tmp u, .cell p ty, .tmp s]) (tmps : Array Value) (P : Program) (w : World) :
  (results fn tmps).run P w = ((asAddr (tmps.getD p undef)).run P w).andThen fun a w₁ => ((loadVar ty a).run P w₁).andThen fun v w₂ => .ok (.tuple #[tmps.getD u undef, v, tmps.getD s undef]) w₂ := by
 simp only [results, h]
 simp [Sem.run_bind, Result.andThen]
theorem ret_IPE {fn : Func} {u p s : Tmp} {w0 w : World} {g : Nat} {q : Rat} {v1 v2 v3 : Value} {t : TypeId} {a : Act} {n err : Int} {R1 R3 : World → Value → Prop} (hr : fn.results = #[.tmp u, .cell p 32, .tmp s]) (ha : a.tmps.getD p undef = .pointer (some ⟨g, 0, none⟩)) (hu : a.tmps.getD u undef = .int .i64 n) (hse : a.tmps.getD s undef = .int .i64 err) (hdef : a.defers = [])
  (hbox : Bx w g t #[v1, v2, v3]) (h : PV w (.agg #[v1, v2, v3]) q) (hb : Below w0.heap.size w0 w) (h1 : R1 w (.int .i64 n)) (h3 : R3 w (.int .i64 err)) : bodyPost Tryz.prog fn (Ret3 R1 (fun w v => PV w v q) R3 w0) .ret a w := by
 refine bodyPost_ret (v := .tuple #[.int .i64 n, .agg #[v1, v2, v3], .int .i64 err]) ?_ hdef ⟨_, _, _, rfl, h1, h, h3, hb⟩
 rw [results_tct hr, ha, hu, hse]
 simp only [asAddr, Sem.run_pure, Result.andThen_ok]
 rw [load_P hbox]
 rfl
theorem sc_Peak_core (v : Value) (l : List (Nat × Rat)) (L : List Rat) (hL : L = l.map Prod.snd) (f t : Nat) (lv : Nat × Rat) (w : World) (hl : RowsI 1 F32 w v l) (h256 : l.length ≤ 256) (hok : ∀ x ∈ l, FlOk x) (hlv : FlOk lv) (hf : f < t) (ht : t ≤ l.length)
  (hck : ∀ w : World, Calls Tryz.prog 68 #[.agg #[.int .i64 (f : Int), .int .i64 (t : Int), .float .f32 lv.1], .int .i64 (l.length : Int)] w (RetV w (.int .i64 0))) (hfit : ∀ x ∈ l, Fit x.2) (hfl : Fit lv.2) :
  Calls Tryz.prog 14 #[v, .agg #[.int .i64 (f : Int), .int .i64 (t : Int), .float .f32 lv.1]] w (Ret3 (fun _ v => v = .int .i64 (pkN L f t lv.2)) (fun w v => PV w v (pkV L f t lv.2)) (fun _ v => v = .int .i64 (pkE L f t lv.2)) w) := by
 obtain ⟨ao, cap, rfl, hc1, hc2, hc3⟩ := hl.slice
 have hs := Below.refl w.heap.size w
 have HL := Lib.hid hl
 have HOK := Lib.hid hok
 have HCK := Lib.hid hck
 have HFT := Lib.hid (show ∀ i, i < L.length → Fit (atQ L i) from fun i hi => by
  subst hL
  obtain ⟨x, hx, e⟩ := List.mem_map.1 (List.mem_of_getElem? (atQ_some hi))
  exact e ▸ hfit x hx)
 have HFL := Lib.hid hfl
 obtain ⟨b64, hcv, hlf⟩ := hlv
 have HLF := Lib.hid hlf
 have HCV := Lib.hid hcv
 have HLQ := Lib.hid hL
 clear hl hok hck hfit hfl hlf hcv hL
 go_enter Tryz.func14, Tryz.ntmps14
 go_wp2_with fail
 refine Calls.abs ?_
 intro w1 hW
 have hsz := hs.size
 have hbw : Below w.heap.size w w1 := by rw [hW]; exact (Below.alloc (Below.alloc (Below.refl w.heap.size w) (by first | exact hs.size | (have := hs.size; simp; done) | (have := hs.size; simp; omega)) _) (by first | exact hs.size | (have := hs.size; simp; done) | (have := hs.size; simp; omega)) _)
 have hs1 : Below w.heap.size w w1 := hs.trans hbw
 have hk : KeepD w w1 := by rw [hW]; exact (((KeepD.refl _).alloc _).alloc _)
 have Bl1g : Bx w1 (w.heap.size) 47 #[.int .i64 (f : Int), .int .i64 (t : Int), .float .f32 lv.1] := by rw [hW]; exact ((Bx.new' _ _ _ _ (by first | rfl | (simp; done))).alloc _)
 have Bl1z : Bx w1 (w.heap.size + 1) 32 #[.bool false, .slice none 0 0, .slice none 0 0] := by rw [hW]; exact (Bx.new' _ _ _ _ (by first | rfl | (simp; done)))
 replace hs := hs1
 clear hs1
 have Blg := Bl1g
 clear Bl1g
 have Blz := Bl1z
 clear Bl1z
 clear hW hk hsz hbw
 have hz_w1 := Blz.lt
 refine (sc_exact_ok _ l _ (HL.out.mono F32.kept hs) h256 HOK.out).mono ?_
 rintro e w2 ⟨vx, _, rfl, hrx, rfl, hb⟩
 replace hs := bStep hs hb
 replace Blg := Blg.mono hb
 replace Blz := Blz.mono hb
 clear hb
 have hLl : L.length = l.length := by rw [HLQ.out]; exact List.length_map _
 rw [← HLQ.out] at hrx
 obtain ⟨ax, kx, rfl, hx1, hx2, hx3⟩ := hrx.slice
 have hLt : t ≤ L.length := by omega
 have hLm : L.length ≤ 256 := by omega
 clear hLl ht h256
 have B0 := Blg.a0
 have B1 := Blg.a1
 have B2 := Blg.a2
 go_wp2_with fail
 refine (HCK.out _).mono ?_
 rintro e w3 ⟨rfl, hb⟩
 replace hs := bStep hs hb
 replace Blg := Blg.mono hb
 replace Blz := Blz.mono hb
 replace hrx := rowsB3 _ _ _ hrx hb
 clear hb
 clear B0 B1 B2
 have B0 := Blg.a0
 have B1 := Blg.a1
 have B2 := Blg.a2
 go_wp2
 clear B0 B1 B2
 have HS0 := Lib.hid hs
 have HG := Lib.hid Blg
 have HZ := Lib.hid Blz
 have HXX := Lib.hid hrx
 clear hrx
 go_loopw [10, 11] (fun av iv wq => ∃ j : Nat, f ≤ j ∧ j ≤ t ∧ iv = .int .i64 (j : Int) ∧ av = .int .i64 (pkA L f (j - f) : Nat) ∧ Below w3.heap.size w3 wq) (fun _ iv _ => t - (intOf iv).toNat)
 case atStart => exact ⟨f, Nat.le_refl _, by omega, rfl, by rw [Nat.sub_self]; rfl, Below.refl _ _⟩
 case round =>
  obtain ⟨j, hj, hk, rfl, rfl, hs1⟩ := hrel
  have hs := HS0.out.trans (hs1.mono HS0.out.size)
  replace Blg := HG.out.mono hs1
  replace Blz := HZ.out.mono hs1
  have hrx := HXX.out.mono PC.kept hs1
  obtain ⟨pk1, pk2⟩ := pkA_le L f (j - f)
  have B0 := Blg.a0
  have B1 := Blg.a1
  have B2 := Blg.a2
  by_cases hlt : j < t
  ·have HST := Lib.hid (show pkA L f (j + 1 - f) = _ by rw [show j + 1 - f = (j - f) + 1 by omega, pkA_succ, show f + (j - f) = j by omega])
   generalize pkA L f (j - f) = a at *
   have hxa := atQ_some (show a < L.length by omega)
   have hxi := atQ_some (show j < L.length by omega)
   have fa := absQ_fit (HFT.out a (by omega))
   have fi := absQ_fit (HFT.out j (by omega))
   obtain ⟨bu, ou, du, csu, hvu, hlenu, hatu, hcu⟩ := hrx.get hxi
   obtain ⟨eu, rfl⟩ := sliceE hvu
   subst eu
   obtain ⟨gu, au, nu, cu, Au, Nu, Du, rfl, hu1⟩ := hcu.openC
   have Eu0 := hatu 0 _ rfl
   have Eu1 := hatu 1 _ rfl
   have Eu2 := hatu 2 _ rfl
   simp only [Nat.add_zero] at Eu0
   clear hatu hcu hlenu hvu
   obtain ⟨bm, om, dm, csm, hvm, hlenm, hatm, hcm⟩ := hrx.get hxa
   obtain ⟨em, rfl⟩ := sliceE hvm
   injection em with em; injection em with em1 em2; subst em1 em2
   obtain ⟨gm, am, nm, cm, Am, Nm, Dm, rfl, hm1⟩ := hcm.openC
   have Em0 := hatm 0 _ rfl
   have Em1 := hatm 1 _ rfl
   have Em2 := hatm 2 _ rfl
   simp only [Nat.add_zero] at Em0
   clear hatm hcm hlenm hvm
   clear hxa hxi hrx
   have hc := sgQ_gt (absQ (atQ L j)) (absQ (atQ L a))
   generalize hsg : sgQ (absQ (atQ L j) - absQ (atQ L a)) = sg at hc
   have HSG := Lib.hid hsg
   clear hsg
   have bk1 : (0 : Int) ≤ (j : Int) := by omega
   have bk2 : (j : Int) < (L.length : Int) := by omega
   have bk3 : (0 : Int) ≤ (a : Int) := by omega
   have bk4 : (a : Int) < (L.length : Int) := by omega
   by_cases hq : absQ (atQ L a) < absQ (atQ L j)
   ·have hsq := hc.2 hq
    have HQ := Lib.hid hq
    clear hq hc
    go_upto_region 11 with fail
    clear B0 B1 B2
    have hb := bDrew wr
    replace hs := bStep hs hb
    replace Blg := Blg.mono hb
    replace Blz := Blz.mono hb
    replace hu1 := hu1.mono hb
    replace hm1 := hm1.mono hb
    replace hs1 := belowJ _ _ _ hs1 hb
    replace Eu0 := cellK Eu0 hb
    replace Eu1 := cellK Eu1 hb
    replace Eu2 := cellK Eu2 hb
    replace Em0 := cellK Em0 hb
    replace Em1 := cellK Em1 hb
    replace Em2 := cellK Em2 hb
    clear hb
    go_region_held3 (fun w' => w'.cell? ⟨bu, ou + j * 3, none⟩ = some (.bool gu) ∧ w'.cell? ⟨bu, ou + j * 3 + 1, none⟩ = some (.slice au nu cu) ∧ w'.cell? ⟨bu, ou + j * 3 + 2, none⟩ = some (.slice Au Nu Du) ∧ w'.cell? ⟨bu, ou + a * 3, none⟩ = some (.bool gm) ∧ w'.cell? ⟨bu, ou + a * 3 + 1, none⟩ = some (.slice am nm cm) ∧ w'.cell? ⟨bu, ou + a * 3 + 2, none⟩ = some (.slice Am Nm Dm))
     (first | exact ⟨Eu0, Eu1, Eu2, Em0, Em1, Em2⟩ | exact ⟨cellA Eu0 _, cellA Eu1 _, cellA Eu2 _, cellA Em0 _, cellA Em1 _, cellA Em2 _⟩ | go_keep)
     (first
      | (go_at_call 17; (with_reducible refine (p_Abs_calls _ _ _ hu1).mono ?_); rintro e w41 ⟨_, rfl, hax, hb⟩; obtain ⟨shax, ahax, nhax, chax, Ahax, Nhax, Chax, rfl⟩ := hax.shape; replace hs := bStep hs hb; replace Blg := Blg.mono hb; replace Blz := Blz.mono hb; replace hu1 := hu1.mono hb; replace hm1 := hm1.mono hb; replace hs1 := belowJ _ _ _ hs1 hb; replace Eu0 := cellK Eu0 hb; replace Eu1 := cellK Eu1 hb; replace Eu2 := cellK Eu2 hb; replace Em0 := cellK Em0 hb; replace Em1 := cellK Em1 hb; replace Em2 := cellK Em2 hb; clear hb)
      | (go_at_call 17; (with_reducible refine (p_Abs_calls _ _ _ hm1).mono ?_); rintro e w42 ⟨_, rfl, hay, hb⟩; obtain ⟨shay, ahay, nhay, chay, Ahay, Nhay, Chay, rfl⟩ := hay.shape; replace hs := bStep hs hb; replace Blg := Blg.mono hb; replace Blz := Blz.mono hb; replace hu1 := hu1.mono hb; replace hm1 := hm1.mono hb; replace hax := hax.mono hb; replace hs1 := belowJ _ _ _ hs1 hb; replace Eu0 := cellK Eu0 hb; replace Eu1 := cellK Eu1 hb; replace Eu2 := cellK Eu2 hb; replace Em0 := cellK Em0 hb; replace Em1 := cellK Em1 hb; replace Em2 := cellK Em2 hb; clear hb)
      | (go_at_call 18; (with_reducible refine (pCmp hax hay fi fa).mono ?_); rintro e w43 ⟨rfl, hb⟩; rw [HSG.out]; replace hs := bStep hs hb; replace Blg := Blg.mono hb; replace Blz := Blz.mono hb; replace hu1 := hu1.mono hb; replace hm1 := hm1.mono hb; replace hax := hax.mono hb; replace hay := hay.mono hb; replace hs1 := belowJ _ _ _ hs1 hb; replace Eu0 := cellK Eu0 hb; replace Eu1 := cellK Eu1 hb; replace Eu2 := cellK Eu2 hb; replace Em0 := cellK Em0 hb; replace Em1 := cellK Em1 hb; replace Em2 := cellK Em2 hb; clear hb))
    clear Eu0 Eu1 Eu2 Em0 Em1 Em2
    skip
    go_wp2
    go_roundw
    case rel => exact ⟨j + 1, by omega, by omega, by go_num, by rw [HST.out, if_pos HQ.out], hs1⟩
    all_goals first | (simp [intOf]; done) | (simp [intOf]; omega)
   ·have hsq : ¬ 0 < sg := fun h => hq (hc.1 h)
    have HQ := Lib.hid hq
    clear hq hc
    go_upto_region 11 with fail
    clear B0 B1 B2
    have hb := bDrew wr
    replace hs := bStep hs hb
    replace Blg := Blg.mono hb
    replace Blz := Blz.mono hb
    replace hu1 := hu1.mono hb
    replace hm1 := hm1.mono hb
    replace hs1 := belowJ _ _ _ hs1 hb
    replace Eu0 := cellK Eu0 hb
    replace Eu1 := cellK Eu1 hb
    replace Eu2 := cellK Eu2 hb
    replace Em0 := cellK Em0 hb
    replace Em1 := cellK Em1 hb
    replace Em2 := cellK Em2 hb
    clear hb
    go_region_held3 (fun w' => w'.cell? ⟨bu, ou + j * 3, none⟩ = some (.bool gu) ∧ w'.cell? ⟨bu, ou + j * 3 + 1, none⟩ = some (.slice au nu cu) ∧ w'.cell? ⟨bu, ou + j * 3 + 2, none⟩ = some (.slice Au Nu Du) ∧ w'.cell? ⟨bu, ou + a * 3, none⟩ = some (.bool gm) ∧ w'.cell? ⟨bu, ou + a * 3 + 1, none⟩ = some (.slice am nm cm) ∧ w'.cell? ⟨bu, ou + a * 3 + 2, none⟩ = some (.slice Am Nm Dm))
     (first | exact ⟨Eu0, Eu1, Eu2, Em0, Em1, Em2⟩ | exact ⟨cellA Eu0 _, cellA Eu1 _, cellA Eu2 _, cellA Em0 _, cellA Em1 _, cellA Em2 _⟩ | go_keep)
     (first
      | (go_at_call 17; (with_reducible refine (p_Abs_calls _ _ _ hu1).mono ?_); rintro e w41 ⟨_, rfl, hax, hb⟩; obtain ⟨shax, ahax, nhax, chax, Ahax, Nhax, Chax, rfl⟩ := hax.shape; replace hs := bStep hs hb; replace Blg := Blg.mono hb; replace Blz := Blz.mono hb; replace hu1 := hu1.mono hb; replace hm1 := hm1.mono hb; replace hs1 := belowJ _ _ _ hs1 hb; replace Eu0 := cellK Eu0 hb; replace Eu1 := cellK Eu1 hb; replace Eu2 := cellK Eu2 hb; replace Em0 := cellK Em0 hb; replace Em1 := cellK Em1 hb; replace Em2 := cellK Em2 hb; clear hb)
      | (go_at_call 17; (with_reducible refine (p_Abs_calls _ _ _ hm1).mono ?_); rintro e w42 ⟨_, rfl, hay, hb⟩; obtain ⟨shay, ahay, nhay, chay, Ahay, Nhay, Chay, rfl⟩ := hay.shape; replace hs := bStep hs hb; replace Blg := Blg.mono hb; replace Blz := Blz.mono hb; replace hu1 := hu1.mono hb; replace hm1 := hm1.mono hb; replace hax := hax.mono hb; replace hs1 := belowJ _ _ _ hs1 hb; replace Eu0 := cellK Eu0 hb; replace Eu1 := cellK Eu1 hb; replace Eu2 := cellK Eu2 hb; replace Em0 := cellK Em0 hb; replace Em1 := cellK Em1 hb; replace Em2 := cellK Em2 hb; clear hb)
      | (go_at_call 18; (with_reducible refine (pCmp hax hay fi fa).mono ?_); rintro e w43 ⟨rfl, hb⟩; rw [HSG.out]; replace hs := bStep hs hb; replace Blg := Blg.mono hb; replace Blz := Blz.mono hb; replace hu1 := hu1.mono hb; replace hm1 := hm1.mono hb; replace hax := hax.mono hb; replace hay := hay.mono hb; replace hs1 := belowJ _ _ _ hs1 hb; replace Eu0 := cellK Eu0 hb; replace Eu1 := cellK Eu1 hb; replace Eu2 := cellK Eu2 hb; replace Em0 := cellK Em0 hb; replace Em1 := cellK Em1 hb; replace Em2 := cellK Em2 hb; clear hb))
    clear Eu0 Eu1 Eu2 Em0 Em1 Em2
    skip
    go_wp2
    go_roundw
    case rel => exact ⟨j + 1, by omega, by omega, by go_num, by rw [HST.out, if_neg HQ.out], hs1⟩
    all_goals first | (simp [intOf]; done) | (simp [intOf]; omega)
  ·have HA := Lib.hid (show pkA L f (j - f) = pkA L f (t - f) by rw [show j = t by omega])
   generalize pkA L f (j - f) = a at *
   have hxa := atQ_some (show a < L.length by omega)
   have fa := absQ_fit (HFT.out a (by omega))
   have bk3 : (0 : Int) ≤ (a : Int) := by omega
   have bk4 : (a : Int) < (L.length : Int) := by omega
   have hcv := HCV.out
   go_wp2_with fail
   refine (HLF.out _).mono ?_
   rintro e w61 ⟨_, rfl, hlv, hb⟩
   obtain ⟨shlv, ahlv, nhlv, chlv, Ahlv, Nhlv, Chlv, rfl⟩ := hlv.shape
   replace hs := bStep hs hb
   replace Blg := Blg.mono hb
   replace Blz := Blz.mono hb
   replace hrx := rowsB3 _ _ _ hrx hb
   replace B0 := cellK B0 hb
   replace B1 := cellK B1 hb
   replace B2 := cellK B2 hb
   clear hb hcv
   go_upto_region 14 with fail
   refine Code.abs ?_
   intro w62 hW
   have hsz := hs.size
   have lg := Blg.lt
   have lz := Blz.lt
   have hbw : Below w.heap.size w61 w62 := by rw [hW]; exact (Below.alloc (Below.refl w.heap.size w61) (by first | exact hs.size | (have := hs.size; simp; done) | (have := hs.size; simp; omega)) _)
   have hs1 : Below w.heap.size w w62 := hs.trans hbw
   have hk : KeepD w61 w62 := by rw [hW]; exact ((KeepD.refl _).alloc _)
   have Bl1g : Bx w62 (w.heap.size) 47 #[.int .i64 (f : Int), .int .i64 (t : Int), .float .f32 lv.1] := by rw [hW]; exact (Blg.alloc _)
   have Bl1z : Bx w62 (w.heap.size + 1) 32 #[.bool false, .slice none 0 0, .slice none 0 0] := by rw [hW]; exact (Blz.alloc _)
   have Bl1l : Bx w62 (w61.heap.size) 32 #[.bool shlv, .slice ahlv nhlv chlv, .slice Ahlv Nhlv Chlv] := by rw [hW]; exact (Bx.new' _ _ _ _ (by first | rfl | (simp; done)))
   replace hs := hs1
   clear hs1
   have hrx1 : Rows 3 32 PC w62 (.slice ax L.length kx) L := by rw [hW]; exact (rowsB3 _ _ _ hrx (Below.alloc (Below.refl _ _) (Nat.le_refl _) _))
   replace hrx := hrx1
   clear hrx1
   replace Blg := Bl1g
   clear Bl1g
   replace Blz := Bl1z
   clear Bl1z
   have Bll := Bl1l
   clear Bl1l
   replace hlv := hlv.keep hk
   clear hW hk hsz hbw lg lz
   have hz_w62 := Bll.lt
   obtain ⟨bm, om, dm, csm, hvm, hlenm, hatm, hcm⟩ := hrx.get hxa
   obtain ⟨em, rfl⟩ := sliceE hvm
   subst em
   obtain ⟨gm, am, nm, cm, Am, Nm, Dm, rfl, hm1⟩ := hcm.openC
   have Em0 := hatm 0 _ rfl
   have Em1 := hatm 1 _ rfl
   have Em2 := hatm 2 _ rfl
   simp only [Nat.add_zero] at Em0
   clear hatm hcm hlenm hvm
   clear hxa hrx
   clear B0 B1 B2
   go_wp2_with fail
   refine (p_Abs_calls _ _ _ hm1).mono ?_
   rintro e w63 ⟨_, rfl, ha, hb⟩
   obtain ⟨sha, aha, nha, cha, Aha, Nha, Cha, rfl⟩ := ha.shape
   replace hs := bStep hs hb
   replace Blg := Blg.mono hb
   replace Blz := Blz.mono hb
   replace Bll := Bll.mono hb
   replace hlv := hlv.mono hb
   replace hm1 := hm1.mono hb
   clear hb
   clear Em0 Em1 Em2
   go_upto_region 15 with fail
   refine Code.abs ?_
   intro w64 hW
   have hsz := hs.size
   have lg := Blg.lt
   have lz := Blz.lt
   have ll := Bll.lt
   have hbw : Below w.heap.size w63 w64 := by rw [hW]; exact (Below.alloc (Below.refl w.heap.size w63) (by first | exact hs.size | (have := hs.size; simp; done) | (have := hs.size; simp; omega)) _)
   have hs1 : Below w.heap.size w w64 := hs.trans hbw
   have hk : KeepD w63 w64 := by rw [hW]; exact ((KeepD.refl _).alloc _)
   have Bl1g : Bx w64 (w.heap.size) 47 #[.int .i64 (f : Int), .int .i64 (t : Int), .float .f32 lv.1] := by rw [hW]; exact (Blg.alloc _)
   have Bl1z : Bx w64 (w.heap.size + 1) 32 #[.bool false, .slice none 0 0, .slice none 0 0] := by rw [hW]; exact (Blz.alloc _)
   have Bl1l : Bx w64 (w61.heap.size) 32 #[.bool shlv, .slice ahlv nhlv chlv, .slice Ahlv Nhlv Chlv] := by rw [hW]; exact (Bll.alloc _)
   have Bl1o : Bx w64 (w63.heap.size) 32 #[.bool sha, .slice aha nha cha, .slice Aha Nha Cha] := by rw [hW]; exact (Bx.new' _ _ _ _ (by first | rfl | (simp; done)))
   replace hs := hs1
   clear hs1
   replace Blg := Bl1g
   clear Bl1g
   replace Blz := Bl1z
   clear Bl1z
   replace Bll := Bl1l
   clear Bl1l
   have Blo := Bl1o
   clear Bl1o
   replace hlv := hlv.keep hk
   replace hm1 := hm1.keep hk
   replace ha := ha.keep hk
   clear hW hk hsz hbw lg lz ll
   have hz_w64 := Blo.lt
   have B3 := Bll.a0
   have B4 := Bll.a1
   have B5 := Bll.a2
   have B6 := Blo.a0
   have B7 := Blo.a1
   have B8 := Blo.a2
   go_wp2_with fail
   have hc := sgQ_sub_lt (absQ (atQ L a)) lv.2
   generalize hsg : sgQ (absQ (atQ L a) - lv.2) = sg at hc
   have HSG := Lib.hid hsg
   clear hsg
   refine (pCmp ha hlv fa HFL.out).mono ?_
   rintro e w65 ⟨rfl, hb⟩
   rw [HSG.out]
   replace hs := bStep hs hb
   replace Blg := Blg.mono hb
   replace Blz := Blz.mono hb
   replace Bll := Bll.mono hb
   replace Blo := Blo.mono hb
   replace hlv := hlv.mono hb
   replace hm1 := hm1.mono hb
   replace ha := ha.mono hb
   clear hb
   by_cases hq : absQ (atQ L a) < lv.2
   ·have hsq := hc.2 hq
    have HQ := Lib.hid hq
    clear hq hc
    have B9 := Blz.a0
    have Ba := Blz.a1
    have Bb := Blz.a2
    have fz := Blz.free
    have Lz := Blz.lt
    clear Bll Blo
    go_wp2
    have e1 : pkN L f t lv.2 = 0 := by unfold pkN; rw [← HA.out, if_pos HQ.out]
    have e2 : pkV L f t lv.2 = 0 := by unfold pkV; rw [← HA.out, if_pos HQ.out]
    have e3 : pkE L f t lv.2 = 70 := by unfold pkE; rw [← HA.out, if_pos HQ.out]
    refine bodyPost.abs ?_
    intro w66 hW
    have hsz := hs.size
    have lg := Blg.lt
    have lz := Blz.lt
    have hbw : Below w.heap.size w65 w66 := by rw [hW]; exact (Below.setCell (Below.setCell (Below.setCell (Below.refl w.heap.size w65) (by first | exact Nat.le_refl _ | omega | (have := hs.size; simp; done) | (have := hs.size; simp; omega)) _) (by first | exact Nat.le_refl _ | omega | (have := hs.size; simp; done) | (have := hs.size; simp; omega)) _) (by first | exact Nat.le_refl _ | omega | (have := hs.size; simp; done) | (have := hs.size; simp; omega)) _)
    have hs1 : Below w.heap.size w w66 := hs.trans hbw
    have hk : KeepD w65 w66 := by rw [hW]; exact (KeepD.set (KeepD.set (KeepD.set (KeepD.refl _) Blz.ty (by decide) _ _) (TyB.store Blz.ty _ _) (by decide) _ _) (TyB.store (TyB.store Blz.ty _ _) _ _) (by decide) _ _)
    have Bl1g : Bx w66 (w.heap.size) 47 #[.int .i64 (f : Int), .int .i64 (t : Int), .float .f32 lv.1] := by rw [hW]; exact (Bx.far (Bx.far (Bx.far Blg (by first | omega | (simp; done) | (simp; omega)) _) (by first | omega | (simp; done) | (simp; omega)) _) (by first | omega | (simp; done) | (simp; omega)) _)
    have Bl1z : Bx w66 (w.heap.size + 1) 32 #[.bool false, .slice none 0 0, .slice none 0 0] := by rw [hW]; exact (Bx.set (Bx.set (Bx.set Blz 0 _ rfl) 1 _ rfl) 2 _ rfl)
    replace hs := hs1
    clear hs1
    replace Blg := Bl1g
    clear Bl1g
    replace Blz := Bl1z
    clear Bl1z
    replace hlv := hlv.keep hk
    replace hm1 := hm1.keep hk
    replace ha := ha.keep hk
    clear hW hk hsz hbw lg lz
    exact ret_IPE rfl rfl rfl rfl rfl Blz (PV.of_eq (PV.zero _) e2.symm) hs (by show _ = _; rw [e1]) (by show _ = _; rw [e3])
   ·have hsq : ¬ sg < 0 := fun h => hq (hc.1 h)
    have HQ := Lib.hid hq
    clear hq hc
    have B9 := Blz.a0
    have Ba := Blz.a1
    have Bb := Blz.a2
    have fz := Blz.free
    have Lz := Blz.lt
    have B6 := Blo.a0
    have B7 := Blo.a1
    have B8 := Blo.a2
    clear Bll Blo B3 B4 B5
    go_wp2
    go_region
    all_goals go_wp2
    have e1 : pkN L f t lv.2 = (a : Nat) := by unfold pkN; rw [← HA.out, if_neg HQ.out]
    have e2 : pkV L f t lv.2 = absQ (atQ L a) := by unfold pkV; rw [← HA.out, if_neg HQ.out]
    have e3 : pkE L f t lv.2 = 0 := by unfold pkE; rw [← HA.out, if_neg HQ.out]
    refine bodyPost.abs ?_
    intro w66 hW
    have hsz := hs.size
    have lg := Blg.lt
    have lz := Blz.lt
    have hbw : Below w.heap.size w65 w66 := by rw [hW]; exact (Below.drew (Below.setCell (Below.setCell (Below.setCell (Below.refl w.heap.size w65) (by first | exact Nat.le_refl _ | omega | (have := hs.size; simp; done) | (have := hs.size; simp; omega)) _) (by first | exact Nat.le_refl _ | omega | (have := hs.size; simp; done) | (have := hs.size; simp; omega)) _) (by first | exact Nat.le_refl _ | omega | (have := hs.size; simp; done) | (have := hs.size; simp; omega)) _))
    have hs1 : Below w.heap.size w w66 := hs.trans hbw
    have hk : KeepD w65 w66 := by rw [hW]; exact ((KeepD.set (KeepD.set (KeepD.set (KeepD.refl _) Blz.ty (by decide) _ _) (TyB.store Blz.ty _ _) (by decide) _ _) (TyB.store (TyB.store Blz.ty _ _) _ _) (by decide) _ _).drew)
    have Bl1g : Bx w66 (w.heap.size) 47 #[.int .i64 (f : Int), .int .i64 (t : Int), .float .f32 lv.1] := by rw [hW]; exact ((Bx.far (Bx.far (Bx.far Blg (by first | omega | (simp; done) | (simp; omega)) _) (by first | omega | (simp; done) | (simp; omega)) _) (by first | omega | (simp; done) | (simp; omega)) _).drew)
    have Bl1z : Bx w66 (w.heap.size + 1) 32 #[.bool sha, .slice aha nha cha, .slice Aha Nha Cha] := by rw [hW]; exact ((Bx.set (Bx.set (Bx.set Blz 0 _ rfl) 1 _ rfl) 2 _ rfl).drew)
    replace hs := hs1
    clear hs1
    replace Blg := Bl1g
    clear Bl1g
    replace Blz := Bl1z
    clear Bl1z
    replace hlv := hlv.keep hk
    replace hm1 := hm1.keep hk
    replace ha := ha.keep hk
    clear hW hk hsz hbw lg lz
    exact ret_IPE rfl rfl rfl rfl rfl Blz (PV.of_eq ha e2.symm) hs (by show _ = _; rw [e1]) (by show _ = _; rw [e3])
theorem sc_Peak_ok (v : Value) (l : List (Nat × Rat)) (f t : Nat) (lv : Nat × Rat) (w : World) (hl : RowsI 1 F32 w v l) (h256 : l.length ≤ 256) (hok : ∀ x ∈ l, FlOk x) (hlv : FlOk lv) (hf : f < t) (ht : t ≤ l.length)
  (hck : ∀ w : World, Calls Tryz.prog 68 #[.agg #[.int .i64 (f : Int), .int .i64 (t : Int), .float .f32 lv.1], .int .i64 (l.length : Int)] w (RetV w (.int .i64 0))) (hfit : ∀ x ∈ l, Fit x.2) (hfl : Fit lv.2) :
  Calls Tryz.prog 14 #[v, .agg #[.int .i64 (f : Int), .int .i64 (t : Int), .float .f32 lv.1]] w (Ret3 (fun _ v => v = .int .i64 (pkN (l.map Prod.snd) f t lv.2)) (fun w v => PV w v (pkV (l.map Prod.snd) f t lv.2)) (fun _ v => v = .int .i64 (pkE (l.map Prod.snd) f t lv.2)) w) :=
 sc_Peak_core v l _ rfl f t lv w hl h256 hok hlv hf ht hck hfit hfl
end Go.Proofs.YtkfekkhhfpkfaaaGreat
