/-
  allow: alike.
-/
import Derived.Test.YtmnipggjjcmjkaaGreatAlkMQ
import Derived.Test.YtmnipggjjcmjkaaGreatPkVecQ
set_option linter.unusedSimpArgs false
set_option linter.unusedVariables false
namespace Go.Proofs.YtmnipggjjcmjkaaGreat
open Go Go.Maps Go.RowKit Dg
attribute [local go_sem ↓] Go.wp_at_zero Go.wp_at_succ

theorem keyI : Keyed Tryz.prog 3 := int_keyed Tryz.underlying3
theorem zeroI (w : World) : (zeroValue 3).run Tryz.prog w = .ok (.int .i64 0) w := by kernel_rfl
theorem map_info : (Tryz.prog.info? 183).map (fun i => (i.zero, i.size, i.bytes)) = some (some (.map none), 1, 8) := by kernel_rfl
/-- The slice of maps: those below i are made. -/
def msA (base n i : Nat) : Array Value := ((List.range n).map fun k => if k < i then Value.map (some (base + k)) else Value.map none).toArray
theorem msA_at {base n i k : Nat} (h : k < n) (hi : k < i) : (msA base n i)[k]? = some (.map (some (base + k))) := by
  unfold msA
  rw [List.getElem?_toArray, List.getElem?_map, List.getElem?_range h]
  simp [hi]
theorem msA_ex {base n i k : Nat} (h : k < n) (hi : ¬ k < i) : (msA base n i)[k]? = some (.map none) := by
  unfold msA
  rw [List.getElem?_toArray, List.getElem?_map, List.getElem?_range h]
  simp [hi]
theorem msA_set {base n i : Nat} (h : i < n) : (msA base n i).setIfInBounds i (.map (some (base + i))) = msA base n (i + 1) := by
  refine Array.ext_getElem? fun k => ?_
  rw [Array.getElem?_setIfInBounds]
  have hs : (msA base n i).size = n := by simp [msA]
  by_cases e : i = k
  · subst e
    rw [if_pos rfl, if_pos (by omega), msA_at h (by omega)]
  · rw [if_neg e]
    by_cases hk : k < n
    · by_cases h1 : k < i
      · rw [msA_at hk h1, msA_at hk (by omega)]
      · rw [msA_ex hk h1, msA_ex hk (by omega)]
    · rw [Array.getElem?_eq_none (by omega), Array.getElem?_eq_none (by simp [msA]; omega)]
theorem msA_made {base0 base g n : Nat} {T : TypeId} {w : World} (h : w.ownsRow base0 T 1 (.slice (some ⟨g, 0, none⟩) n n) n (madeCells #[Value.map none] (n * 1)).toList) (hn : 0 < n) : Bx w g T (msA base n 0) := by
  obtain ⟨h1, h2⟩ := h
  rcases h2 with ⟨e, _⟩ | ⟨g', cap, cur, hv, _, hg, _, _, hs, ht⟩
  · cases e
  · injection hv with e1 e2 e3
    injection e1 with e1
    injection e1 with e1 _
    subst e1 e3
    unfold Bx
    have e : cur = msA base n 0 := by
      apply Array.toList_inj.1
      rw [List.take_of_length_le (by rw [Array.length_toList]; omega)] at ht
      rw [ht]
      refine List.ext_getElem? fun j => ?_
      by_cases hj : j < n
      · rw [made_at (by omega)]
        have := msA_ex (base := base) (i := 0) hj (by omega)
        rw [← Array.getElem?_toList] at this
        rw [this]
        show some (#[Value.map none][j % 1]!) = _
        rw [Nat.mod_one]; rfl
      · rw [List.getElem?_eq_none (by rw [Array.length_toList, size_madeCells]; omega), List.getElem?_eq_none (by simp [msA]; omega)]
    rw [← e]; exact hg
/-- The map at block b reads as f. -/
def MsAt (w : World) (b : Nat) (f : Int → Nat) (n : Nat) : Prop := ∃ D : DataW Unit, w.ownsMap Tryz.prog 3 (plainElem Tryz.prog 3) b n D ∧ Rd D f
theorem MsAt.kept {w w' : World} {b n : Nat} {f : Int → Nat} (h : MsAt w b f n) (e : w'.heap[b]? = w.heap[b]?) : MsAt w' b f n := by
  obtain ⟨D, ⟨es, clock, hb, F, hn, hD⟩, hr⟩ := h
  exact ⟨D, ⟨es, clock, e.trans hb, F, hn, hD⟩, hr⟩
theorem MsAt.lt {w : World} {b n : Nat} {f : Int → Nat} (h : MsAt w b f n) : b < w.heap.size := by obtain ⟨D, h, _⟩ := h; exact h.lt
theorem MsAt.eq {w : World} {b n n' : Nat} {f f' : Int → Nat} (h : MsAt w b f n) (e : f = f') (hn : n ≤ n') : MsAt w b f' n' := by
  subst e
  obtain ⟨D, h, hr⟩ := h
  exact ⟨D, h.mono hn, hr⟩
theorem Btw_made {w : World} {g i : Nat} {o : Obj} {v : Value} : Btw w.heap.size g w ((w.alloc o).setCell ⟨g, i, none⟩ v) := by
  have h : Below 0 w ((w.alloc o).setCell ⟨g, i, none⟩ v) := ((Below.refl 0 w).alloc (Nat.zero_le _) o).setCell (Nat.zero_le _) v
  exact ⟨h.os, h.tape, h.output, h.size, fun k hk hn => (Below.heap_setCell _ _ _ k hn).trans (Below.heap_alloc w o k hk)⟩
theorem owns_size {w : World} {b n : Nat} {D : DataW Unit} (h : w.ownsMap Tryz.prog 3 (plainElem Tryz.prog 3) b n D) : Maps.size D ≤ n := by
  obtain ⟨es, clock, hb, F, hn, rfl⟩ := h
  rw [size_eq, length_sorted]
  simpa using hn
/-- What stays while the maps turn. -/
structure Fx (w0 : World) (o m g br ofs B n1 : Nat) (M : Int) (R : List Int) (w : World) : Prop where
  hs : Below o w0 w
  out : Bx w o 29 #[.bool false, .slice none 0 0, .slice none 0 0]
  mid : Bx w m 3 #[.int .i64 M]
  rk : ∀ j, j < R.length → w.cell? ⟨br, ofs + j, none⟩ = some (.int .i64 (nthI R j))
  ms : Bx w g 183 (msA B n1 n1)
  sz : B + n1 ≤ w.heap.size
theorem Fx.btw {w0 w w' : World} {o m g br ofs B n1 B' t : Nat} {M : Int} {R : List Int} (h : Fx w0 o m g br ofs B n1 M R w) (hb : Btw B' t w w') (h1 : o < B) (h2 : m < B) (h3 : br < B) (h4 : g < B) (h5 : B ≤ t) (h6 : B ≤ B') : Fx w0 o m g br ofs B n1 M R w' :=
  ⟨h.hs.trans (hb.below (by omega) (by omega)), (hb.block _ (by omega) (by omega)).trans h.out, (hb.block _ (by omega) (by omega)).trans h.mid, fun j hj => (hb.cell (show br < B' by omega) (show br ≠ t by omega)).trans (h.rk j hj), (hb.block _ (by omega) (by omega)).trans h.ms, Nat.le_trans h.sz hb.size⟩
theorem cnt_bd {P : List Int} (h : P.length ≤ 20) (k : Nat) (s : Int) : cnt P k s ≤ 1048576 := by
  have a := sm_len P k
  have b : 2 ^ P.length ≤ 2 ^ 20 := Nat.pow_le_pow_right (by decide) h
  have c : cnt P k s ≤ (sm P k).length := List.count_le_length
  omega
theorem sm_bd20 {P : List Int} (h : P.length ≤ 20) (k : Nat) : (sm P k).length ≤ 1048576 := by
  have a := sm_len P k
  have b : 2 ^ P.length ≤ 2 ^ 20 := Nat.pow_le_pow_right (by decide) h
  omega
theorem cnt_key {P : List Int} (h : P.length ≤ 20) (hP : ∀ x ∈ P, 0 ≤ x ∧ x ≤ 1000) {k : Nat} {s : Int} (hc : 0 < cnt P k s) : 0 ≤ s ∧ s ≤ 20000 := by
  have b := sm_bd P hP k s (List.count_pos_iff.1 hc)
  have : (1000 : Int) * P.length ≤ 1000 * 20 := Int.mul_le_mul_of_nonneg_left (by omega) (by decide)
  omega
theorem wfI {z : Int} (h1 : -1000000000 ≤ z) (h2 : z ≤ 1000000000) : (Lit.int .i64 z).wf = true := by
  simp [Lit.wf, IntKind.min, IntKind.max, IntKind.signed, IntKind.bits]; omega
theorem totS_sum : ∀ (L : List Int) (k : Nat), k ≤ L.length → totS L k = sumI (L.take k)
  | L, 0, _ => by simp [totS, sumI]
  | L, k + 1, h => by
    have e : L[k] = nthI L k := by
      have := nthI_some (show k < L.length by omega)
      rw [List.getElem?_eq_getElem (show k < L.length by omega)] at this
      injection this
    rw [List.take_succ_eq_append_getElem (show k < L.length by omega), sumI_append, ← totS_sum L k (by omega), e]
    show totS L k + nthI L k = totS L k + (nthI L k + 0)
    omega
/-- The first i ranks, the last one first. -/
def pre (R : List Int) (i : Nat) : List Int := (R.take i).reverse
theorem pre_next {R : List Int} {i : Nat} (h : i < R.length) {r : Int} (hr : nthI R i = r) : pre R (i + 1) = r :: pre R i := by
  unfold pre
  rw [List.take_succ_eq_append_getElem h, List.reverse_append]
  have e : R[i] = nthI R i := by
    have := nthI_some h
    rw [List.getElem?_eq_getElem h] at this
    injection this
  rw [e, hr]; rfl
theorem pre_len {R : List Int} {i : Nat} (h : i ≤ R.length) : (pre R i).length = i := by unfold pre; rw [List.length_reverse, List.length_take]; omega
theorem pre_perm (R : List Int) : (pre R R.length).Perm R := by unfold pre; rw [List.take_length]; exact List.reverse_perm R

set_option maxRecDepth 100000 in
set_option maxHeartbeats 4000000 in
theorem al_off {g : Nat} {M n F : Int} (w : World) (hB : Bx w g 3 #[.int .i64 M]) (hF : offI M n = F) (b1 : -1000000 ≤ M) (b2 : M ≤ 1000000) (b3 : -1000000 ≤ n) (b4 : n ≤ 1000000) : Calls Tryz.prog 132 #[.int .i64 n, .pointer (some ⟨g, 0, none⟩)] w (RetV w (.int .i64 F)) := by
  have hs := Below.refl w.heap.size w
  have HF := Lib.hid hF
  clear hF
  have c0 := hB.at 0 rfl
  have Lg := hB.lt
  have e1 := IntWalk.i64_in (n - M) (by omega)
  have e2 := IntWalk.i64_in (M - n) (by omega)
  go_enter Tryz.func132, Tryz.ntmps132
  go_wp2
  go_ret
  exact ⟨by rw [← HF.out]; rfl, hs⟩

set_option maxRecDepth 100000 in
set_option maxHeartbeats 16000000 in
theorem al_alike {va vb : Value} {la lb : List Rat} (w : World) (ha : Rows 3 29 PC w va la) (hb : Rows 3 29 PC w vb lb) (h1 : 1 ≤ la.length) (h2 : 1 ≤ lb.length) (h20 : la.length + lb.length ≤ 20) {L : List Rat} (hLL : L = la ++ lb) (hz : ∀ i, i < L.length → SzQ 100000 (nthQ L i)) {R : List Int} (hRR : R = rkT L L.length) {q : Rat} (hq : alkQ R la.length = q) :
    Calls Tryz.prog 85 #[va, vb] w (RetP w q) := by
  have hR0 : ∀ x ∈ R, 0 ≤ x ∧ x ≤ 1000 := hRR ▸ rkT_bd (by rw [hLL, List.length_append]; omega) _
  obtain ⟨m, hm⟩ : ∃ m, m = la.length := ⟨_, rfl⟩
  obtain ⟨N, hN⟩ : ∃ N, N = R.length := ⟨_, rfl⟩
  have hrl : R.length = la.length + lb.length := by rw [hRR, rkT_len, hLL, List.length_append]
  have m1 : 1 ≤ m := by omega
  have mN : m ≤ N := by omega
  have N20 : N ≤ 20 := by omega
  have lm1 : la.length ≤ m := by omega
  have lm2 : m ≤ la.length := by omega
  have rn1 : R.length ≤ N := by omega
  have rn2 : N ≤ R.length := by omega
  have HRB := Lib.hid hR0
  have HRR := Lib.hid hRR
  have HQ := Lib.hid hq
  clear hR0 hrl hRR hq hm hN
  obtain ⟨ao, c, rfl, hc1, hc2, hc3⟩ := ha.slice
  obtain ⟨bo, d, rfl, hd1, hd2, hd3⟩ := hb.slice
  have hs := Below.refl w.heap.size w
  have hL : L.length = la.length + lb.length := by rw [hLL, List.length_append]
  have HLL := Lib.hid hLL
  have HL := Lib.hid hL
  have HZ := Lib.hid hz
  clear hz hL hLL
  obtain ⟨i0, hi, hz0, hz1, hz2⟩ := info_parts map_info
  go_enter Tryz.func85, Tryz.ntmps85
  go_wp2_with fail
  refine Calls.abs ?_
  intro w2 hW
  have Blo : Bx w2 w.heap.size 29 #[.bool false, .slice none 0 0, .slice none 0 0] := by rw [hW]; exact ((Bx.new0 _ _ _).alloc _)
  have Blb : Bx w2 (w.heap.size + 1) 46 #[.slice ao la.length c, .slice bo lb.length d] := by rw [hW]; exact (Bx.new0 _ _ _)
  have hbb : Below w.heap.size w w2 := by rw [hW]; exact ((Below.refl _ _).alloc (Nat.le_refl _) _).alloc (by simp) _
  replace hs := bStep hs hbb
  replace ha := ha.mono PC.kept hbb
  replace hb := hb.mono PC.kept hbb
  clear hbb hW
  refine (al_Concat w2 Blb ha hb h1 h2 (by omega)).mono ?_
  rintro e w3 ⟨vc, rfl, hc, hbb⟩
  rw [← HLL.out] at hc
  obtain ⟨bc, oc, cc, rfl, hc4, hc5, -⟩ := hc.open_ (by rw [HL.out]; omega)
  replace hs := bStep hs hbb
  replace Blo := Blo.mono hbb
  clear hbb ha hb Blb
  go_wp2_with fail
  refine (al_ranks w3 hc (by rw [HL.out]; omega) (by rw [HL.out]; omega) HZ.out).mono ?_
  rintro e w4 ⟨vr, rfl, hr, hbb⟩
  rw [← HRR.out] at hr
  obtain ⟨br, or, cr, rfl, hr4, hr5, -⟩ := hr.open_ (by omega)
  replace hs := bStep hs hbb
  replace Blo := Blo.mono hbb
  clear hbb hc
  have hr6 : la.length ≤ cr := by omega
  -- the middle
  obtain ⟨M, hM⟩ : ∃ M : Int, M = (la.length : Int) * ((R.length : Int) + 1) := ⟨_, rfl⟩
  have M0 : 0 ≤ M := by rw [hM]; exact Int.mul_nonneg (by omega) (by omega)
  have M1 : M ≤ 20 * 21 := by rw [hM]; exact Int.mul_le_mul (by omega) (by omega) (by omega) (by omega)
  have wr1 : IntKind.i64.wrap ((R.length : Int) + 1) = (R.length : Int) + 1 := IntWalk.i64_in _ (by omega)
  have wr2 : IntKind.i64.wrap ((la.length : Int) * ((R.length : Int) + 1)) = M := by rw [← hM]; exact IntWalk.i64_in M (by omega)
  have HM := Lib.hid hM
  clear hM
  go_wp2_with fail
  clear wr1 wr2
  refine Calls.abs ?_
  intro w5 hW
  have Blm : Bx w5 w4.heap.size 3 #[.int .i64 M] := by rw [hW]; exact (Bx.new0 _ _ _)
  have hbb : Below w4.heap.size w4 w5 := by rw [hW]; exact (Below.refl _ _).alloc (Nat.le_refl _) _
  have lo : w.heap.size < w4.heap.size := Blo.lt
  have lr : br < w4.heap.size := hr.lt (by omega)
  have sm4 : w.heap.size ≤ w4.heap.size := hs.size
  replace hs := bStep hs hbb
  replace Blo := Blo.mono hbb
  replace hr := hr.mono IC.kept hbb
  clear hbb hW
  obtain ⟨Q, hQ⟩ : ∃ Q, Q = R.take la.length := ⟨_, rfl⟩
  have ht := hr.take la.length _ _ _ rfl (by omega)
  have hlt : Q.length = la.length := by rw [hQ, List.length_take]; omega
  obtain ⟨T, hT0⟩ : ∃ T, totS Q Q.length = T := ⟨_, rfl⟩
  have hTS : T = sumI Q := by rw [← hT0, totS_sum Q Q.length (Nat.le_refl _), List.take_length]
  have hQB : ∀ x ∈ Q, 0 ≤ x ∧ x ≤ 1000 := fun x hx => HRB.out x (List.mem_of_mem_take (hQ ▸ hx))
  have hTb := totS_bd hQB Q.length (Nat.le_refl _)
  rw [hT0] at hTb
  rw [← hQ] at ht
  have hT := al_total w5 (by rw [← hlt] at ht; exact ht) (by rw [hlt]; exact h1) (by rw [hlt]; omega) hQB
  rw [hT0, hlt] at hT
  have HT := Lib.hid hT
  obtain ⟨T0, T1⟩ : 0 ≤ T ∧ T ≤ 20000 := by omega
  have HTS := Lib.hid (show T = sumI (R.take la.length) by rw [← hQ]; exact hTS)
  clear hT ht hT0 hTS hTb hQB hlt hQ Q
  refine HT.out.mono ?_
  clear HT
  rintro e w6 ⟨rfl, hbb⟩
  replace hs := bStep hs hbb
  replace Blo := Blo.mono hbb
  replace Blm := Blm.mono hbb
  replace hr := hr.mono IC.kept hbb
  clear hbb
  obtain ⟨F, hF⟩ : ∃ F, offI M T = F := ⟨_, rfl⟩
  go_wp2_with fail
  refine (al_off w6 Blm hF (by omega) (by omega) (by omega) (by omega)).mono ?_
  have HF := Lib.hid hF
  clear hF
  rintro e w7 ⟨rfl, hbb⟩
  replace hs := bStep hs hbb
  replace Blo := Blo.mono hbb
  replace Blm := Blm.mono hbb
  replace hr := hr.mono IC.kept hbb
  clear hbb
  obtain ⟨n1, hn1⟩ : ∃ n1 : Nat, n1 = la.length + 1 := ⟨_, rfl⟩
  have wr3 : IntKind.i64.wrap ((la.length : Int) + 1) = (n1 : Int) := by rw [IntWalk.i64_in _ (by omega)]; omega
  have nm1 : n1 ≤ m + 1 := by omega
  have nm2 : m + 1 ≤ n1 := by omega
  clear hn1
  go_wp2_with (at_make; refine wpList.stop ?_)
  refine ⟨?_⟩
  clear wr3
  refine wpList_make_full _ rfl _ _ _ rfl w.heap.size 183 i0 _ 1 Tryz.underlying182 hi hz0 hz1 _ _ _ _ (n1) rfl rfl (by omega) (by omega) (by rw [hz2]; omega) (by unfold maxLen; omega) hs.size ?_
  intro w8 hown hgrow
  have hbb : Below w7.heap.size w7 w8 := (Below.refl _ _).grown hgrow (Nat.le_refl _) (fun k hk => by cases hk)
  obtain ⟨g, hg⟩ : ∃ g, g = w7.heap.size := ⟨_, rfl⟩
  rw [← hg] at hown ⊢
  have lo7 : w.heap.size < w7.heap.size := Blo.lt
  have lm7 : w4.heap.size < w7.heap.size := Blm.lt
  have lr7 : br < w7.heap.size := hr.lt (by omega)
  have gs : w.heap.size ≤ g := by omega
  have go1 : g ≠ w.heap.size := by omega
  have gm1 : g ≠ w4.heap.size := by omega
  have gr1 : g ≠ br := by omega
  have gm2 : w4.heap.size < g := by omega
  have gr2 : br < g := by omega
  clear hg
  replace hs := bStep hs hbb
  replace Blo := Blo.mono hbb
  replace Blm := Blm.mono hbb
  replace hr := hr.mono IC.kept hbb
  obtain ⟨B, hB⟩ : ∃ B, B = w8.heap.size := ⟨_, rfl⟩
  have Blg : Bx w8 g 183 (msA B n1 0) := msA_made hown (by omega)
  clear hown hgrow hbb
  have hB2 : w8.heap.size ≤ B := by omega
  have hB3 : B ≤ w8.heap.size := by omega
  have gB : g < B := by have := Blg.lt; omega
  have hmm := @run_makeMap Tryz.prog
  go_wp2
  go_loopw [48] (fun s48 wq => ∃ i : Nat, i ≤ n1 ∧ s48 = .int .i64 i ∧ wq.heap.size = B + i ∧ Below w.heap.size w wq ∧ Bx wq w.heap.size 29 #[.bool false, .slice none 0 0, .slice none 0 0] ∧ Bx wq w4.heap.size 3 #[.int .i64 M] ∧ Rows 1 3 IC wq (.slice (some ⟨br, or, none⟩) R.length cr) R ∧ Bx wq g 183 (msA B n1 i) ∧ ∀ k, k < i → MsAt wq (B + k) (fun _ => 0) 0) (fun s48 _ => n1 - (intOf s48).toNat)
  case atStart => exact ⟨0, Nat.zero_le _, rfl, by omega, hs, Blo, Blm, hr, Blg, fun k hk => absurd hk (Nat.not_lt_zero _)⟩
  case round =>
    clear Blo Blm hr Blg hs hB hB2 hB3
    obtain ⟨i, hi1, rfl, hsz, hs, Blo, Blm, hr, Blg, HMs⟩ := hrel
    by_cases hlt : i < n1
    · have q1d : ((i : Int) < (n1 : Int)) = True := eq_true (by omega)
      have cg := (Blg.alloc (.map #[] 0)).at i (msA_ex (base := B) hlt (Nat.lt_irrefl i))
      have fg := (Blg.alloc (.map #[] 0)).free i
      have Lg := Blg.lt
      replace HMs := Lib.hid HMs
      go_upto_region 10 with fail
      clear cg fg
      refine Code.abs ?_
      intro w9 hW
      have hG : Gr [g] wr w9 := by rw [hW]; exact (Gr.refl _ _).alloc.set
      have hk : KeepD wr w9 := hG.keep ⟨⟨_, Blg.ty, by decide⟩, True.intro⟩
      have hbw : Below w.heap.size wr w9 := hG.below1 hs.size gs
      have hsz9 : w9.heap.size = B + (i + 1) := by rw [hW]; simp; omega
      have hT : Btw wr.heap.size g wr w9 := by rw [hW]; exact Btw_made
      have hnew : MsAt w9 (B + i) (fun _ => 0) 0 := by
        have h0 : MsAt (wr.alloc (.map #[] 0)) wr.heap.size (fun _ => 0) 0 := ⟨_, World.ownsMap_made wr Tryz.prog 3 (plainElem Tryz.prog 3), Rd.nil⟩
        rw [hsz] at h0
        rw [hW]
        exact h0.kept (Below.heap_setCell _ _ _ _ (show B + i ≠ g by omega))
      have Blg9 : Bx w9 g 183 (msA B n1 (i + 1)) := by
        rw [hW]
        exact (Blg.alloc _).set i _ (msA_set hlt)
      replace Blo := hG.bx Blo (notMem1 (by omega))
      replace Blm := hG.bx Blm (notMem1 (by omega))
      replace hr := hr.gr IC.kept hG (notMem1 (by omega)) hk
      replace hs := hs.trans hbw
      have HM9 : ∀ k, k < i + 1 → MsAt w9 (B + k) (fun _ => 0) 0 := fun k hk => by
        by_cases e : k = i
        · subst e; exact hnew
        · exact (HMs.out k (by omega)).kept (hT.block _ (by omega) (by omega))
      clear hW hG hbw hT hnew HMs hsz Blg Lg
      replace HM9 := Lib.hid HM9
      go_wp2
      go_roundw
      case rel => exact ⟨i + 1, by omega, by go_num, hsz9, hs, Blo, Blm, hr, Blg9, HM9.out⟩
      all_goals first | (simp [intOf]; done) | (simp [intOf]; omega)
    · have q1d : ((i : Int) < (n1 : Int)) = False := eq_false (by omega)
      obtain rfl : n1 = i := by omega
      have hX : Fx w w.heap.size w4.heap.size g br or B n1 M R wr := ⟨hs, Blo, Blm, fun j hj => by have := (rowI_at hr hj).1; rwa [Nat.mul_one] at this, Blg, by omega⟩
      have oB : w.heap.size < B := by omega
      have mB : w4.heap.size < B := by omega
      have rB : br < B := by omega
      clear hs Blo Blm hr Blg
      have c0 := hX.ms.at 0 (msA_at (base := B) (n := n1) (i := n1) (show 0 < n1 by omega) (by omega))
      rw [Nat.add_zero] at c0
      have Lg := hX.ms.lt
      obtain ⟨D0, ho0, hr0⟩ := HMs 0 (by omega)
      rw [Nat.add_zero] at ho0
      replace HMs := Lib.hid HMs
      have wf0 : (Lit.int .i64 0).wf = true := by decide
      have wf1 : (Lit.int .i64 1).wf = true := by decide
      go_wp2_with (at_mapUpdate; refine wpList.stop ?_)
      refine ⟨?_⟩
      refine wpList_mapUpdate_own _ rfl _ _ _ 183 rfl 3 3 keyI Tryz.underlying183 _ B 0 D0 rfl ho0 (by unfold maxLen; omega) _ _ _ rfl rfl (keyOf_int_mk Tryz.underlying3 wf0) _ [] (plainElem_int Tryz.underlying3 wf1) ?_
      intro w10 ho1 hg1
      have hb1 : Btw wr.heap.size B wr w10 := (Btw.refl _ _ _).by_ hg1 (Nat.le_refl _) (fun j hj => .inr (Option.some.inj hj).symm)
      have hX := hX.btw hb1 oB mB rB gB (Nat.le_refl _) (by have := hX.sz; omega)
      have HM1 : ∀ k, k ≤ m → MsAt w10 (B + k) (cnt (pre R 0) k) (sm (pre R 0) k).length := fun k hk => by
        match k with
        | 0 =>
          have hr1 : Rd (D0.put (.int .i64 0) (.lit (.int .i64 1))) (fun s => if s = 0 then 1 else 0) := hr0.put 0 (c := 1) (by decide)
          have e1 : (fun s => if s = (0 : Int) then 1 else 0) = cnt (pre R 0) 0 := funext fun s => (cnt_zero (pre R 0) s).symm
          have h0 : MsAt w10 B _ _ := ⟨_, ho1, hr1⟩
          exact h0.eq e1 (by rw [sm_zero]; exact Nat.le_refl _)
        | k + 1 =>
          have h0 := (HMs.out (k + 1) (by omega)).kept (w' := w10) (hb1.block _ (by have := (HMs.out (k + 1) (by omega)).lt; exact this) (by omega))
          exact h0.eq (by funext s; rfl) (Nat.zero_le _)
      clear ho1 hg1 hb1 HMs hr0 ho0 c0 Lg wf0 wf1
      replace HM1 := Lib.hid HM1
      replace hX := Lib.hid hX
      go_wp2
      go_loopw [61] (fun s61 wq => ∃ i : Nat, i ≤ R.length ∧ s61 = .int .i64 i ∧ Hid (Fx w w.heap.size w4.heap.size g br or B n1 M R wq) ∧ Hid (∀ k, k ≤ m → MsAt wq (B + k) (cnt (pre R i) k) (sm (pre R i) k).length)) (fun s61 _ => R.length - (intOf s61).toNat)
      case atStart => exact ⟨0, Nat.zero_le _, rfl, hX, HM1⟩
      case round =>
        clear hX HM1
        obtain ⟨i, hi1, rfl, hX, HMs⟩ := hrel
        obtain ⟨wo, hwo⟩ : ∃ x, x = wr := ⟨_, rfl⟩
        subst hwo
        by_cases hlt : i < R.length
        · have q2d : ((i : Int) < (R.length : Int)) = True := eq_true (by omega)
          have cr := hX.out.rk i hlt
          obtain ⟨r, hr⟩ : ∃ r, nthI R i = r := ⟨_, rfl⟩
          rw [hr] at cr
          obtain ⟨r0, r1⟩ : 0 ≤ r ∧ r ≤ 1000 := by rw [← hr]; exact HRB.out _ (List.mem_of_getElem? (nthI_some hlt))
          have HR := Lib.hid hr
          clear hr
          go_wp2
          clear cr
          go_loopw [14] (fun s14 wq => ∃ n : Nat, n ≤ m ∧ s14 = .int .i64 n ∧ Hid (Fx w w.heap.size w4.heap.size g br or B n1 M R wq) ∧ Hid (∀ k, k ≤ m → MsAt wq (B + k) (if n < k then cnt (pre R (i + 1)) k else cnt (pre R i) k) (if n < k then (sm (pre R (i + 1)) k).length else (sm (pre R i) k).length))) (fun s14 _ => (intOf s14).toNat)
          case atStart => exact ⟨la.length, lm1, rfl, hX, Lib.hid fun k hk => by rw [if_neg (by omega), if_neg (by omega)]; exact HMs.out k hk⟩
          case round =>
            clear hX HMs
            obtain ⟨n, hn1, rfl, hX, HMn⟩ := hrel
            obtain ⟨wi, hwi⟩ : ∃ x, x = wr := ⟨_, rfl⟩
            subst hwi
            by_cases hn0 : 0 < n
            · have q3d : ((0 : Int) < (n : Int)) = True := eq_true (by omega)
              have hPl : (pre R i).length ≤ 20 := by rw [pre_len (by omega)]; omega
              have hPb : ∀ x ∈ pre R i, 0 ≤ x ∧ x ≤ 1000 := fun x hx => HRB.out x (List.mem_of_mem_take (List.mem_reverse.1 hx))
              have wn1 := IntWalk.i64_in ((n : Int) - 1) (by omega)
              have wn2 : ((n : Int) - 1).toNat = n - 1 := by omega
              have wn3 : (0 : Int) ≤ (n : Int) - 1 := by omega
              have wn4 : (n : Int) - 1 < (n1 : Int) := by omega
              have wn5 : (n : Int) < (n1 : Int) := by omega
              have cp := hX.out.ms.at (n - 1) (msA_at (base := B) (n := n1) (i := n1) (show n - 1 < n1 by omega) (by omega))
              have cg := hX.out.ms.at n (msA_at (base := B) (n := n1) (i := n1) (show n < n1 by omega) (by omega))
              have Lg := hX.out.ms.lt
              obtain ⟨D, hoD, hrD⟩ := HMn.out (n - 1) (by omega)
              rw [if_neg (by omega)] at hoD hrD
              obtain ⟨E, hoE, hrE⟩ := HMn.out n hn1
              rw [if_neg (by omega)] at hoE hrE
              obtain ⟨nD, hnD⟩ : ∃ z, (sm (pre R i) (n - 1)).length = z := ⟨_, rfl⟩
              obtain ⟨nE, hnE⟩ : ∃ z, (sm (pre R i) n).length = z := ⟨_, rfl⟩
              obtain ⟨fD, hfD⟩ : ∃ z, cnt (pre R i) (n - 1) = z := ⟨_, rfl⟩
              obtain ⟨fE, hfE⟩ : ∃ z, cnt (pre R i) n = z := ⟨_, rfl⟩
              rw [hnD] at hoD
              rw [hnE] at hoE
              rw [hfD] at hrD
              rw [hfE] at hrE
              have bD : nD ≤ 1048576 := hnD ▸ sm_bd20 hPl (n - 1)
              have bE : nE ≤ 1048576 := hnE ▸ sm_bd20 hPl n
              have bs := owns_size hoD
              have KD := Lib.hid (fun s : Int => And.intro (show fD s ≤ 1048576 from hfD ▸ cnt_bd hPl (n - 1) s) (fun h : 0 < fD s => cnt_key (k := n - 1) hPl hPb (show 0 < cnt (pre R i) (n - 1) s by rw [hfD]; exact h)))
              have KE := Lib.hid (fun s : Int => show fE s ≤ 1048576 from hfE ▸ cnt_bd hPl n s)
              have HnD := Lib.hid hnD
              have HnE := Lib.hid hnE
              have HfD := Lib.hid hfD
              have HfE := Lib.hid hfE
              clear hnD hnE hfD hfE hPl hPb
              have szi := hX.out.sz
              replace hrD := Lib.hid hrD
              replace hrE := Lib.hid hrE
              go_wp2_with (at_range; refine wpList.stop ?_)
              refine ⟨?_⟩
              refine wpList_range_own _ rfl _ 183 rfl 3 3 keyI Tryz.underlying183 _ (B + (n - 1)) _ D rfl hoD ?_
              intro w0 hrg0 hg0 hs0
              have hb0 : Btw wi.heap.size (B + n) wi w0 := (Btw.refl _ _ _).by_ hg0 (Nat.le_refl _) (fun j hj => by cases hj)
              have hoE0 := hoE.kept hg0 (by simp)
              obtain ⟨rb, hrb⟩ : ∃ z, z = wi.heap.size := ⟨_, rfl⟩
              have rb1 : B + n1 ≤ rb := by omega
              have rb2 : rb ≤ w0.heap.size := by omega
              rw [← hrb] at hrg0 hb0 ⊢
              clear hoE hoD hg0 cp hrb
              go_wp2
              go_frame
              go_loopw [15] (fun _ wq => ∃ (left : Lit → Bool) (ct : Nat) (E : DataW Unit), wq.ranges Tryz.prog 3 (plainElem Tryz.prog 3) (B + (n - 1)) rb nD D left ct ∧ ct ≤ Maps.size D ∧ wq.ownsMap Tryz.prog 3 (plainElem Tryz.prog 3) (B + n) (nE + (Maps.size D - ct)) E ∧ Hid (Rd E (upF fD fE r D left)) ∧ Hid (Btw rb (B + n) wi wq) ∧ rb ≤ wq.heap.size) (fun _ wq => wq.rangeLeft (B + (n - 1)) rb)
              case atStart => exact ⟨_, _, E, hrg0, Nat.le_refl _, hoE0.mono (by omega), Lib.hid (by rw [upF_start]; exact hrE.out), Lib.hid hb0, by omega⟩
              case round =>
                clear hrg0 hoE0 hb0 hrE E
                obtain ⟨left, ct, E, hrg, hct, hoE, hrE, hbt, hrs⟩ := hrel
                go_wp2_with (at_next; refine wpList.stop ?_)
                refine ⟨?_⟩
                refine wpList_next_ranges_ii _ rfl _ rfl 3 3 .i64 .i64 keyI Tryz.underlying3 Tryz.underlying3 (B + (n - 1)) rb _ _ _ _ rfl hrg ?_ ?_
                · intro hc0 hl0
                  have hX2 : Fx w w.heap.size w4.heap.size g br or B n1 M R wr := hX.out.btw hbt.out oB mB rB gB (by omega) (by omega)
                  have hE2 : Rd E (cnt (pre R (i + 1)) n) := by
                    have h := hrE.out
                    rw [upF_end hrD.out hl0] at h
                    refine h.eq (funext fun s => ?_)
                    obtain ⟨k, rfl⟩ : ∃ k, n = k + 1 := ⟨n - 1, by omega⟩
                    rw [pre_next hlt HR.out, cnt_cons, ← HfD.out, ← HfE.out]; rfl
                  have hN2 : nE + Maps.size D ≤ (sm (pre R (i + 1)) n).length := by
                    obtain ⟨k, rfl⟩ : ∃ k, n = k + 1 := ⟨n - 1, by omega⟩
                    rw [pre_next hlt HR.out, sm_cons, List.length_append, List.length_map, HnE.out, show (sm (pre R i) k).length = nD from HnD.out]
                    omega
                  have hM2 : ∀ k, k ≤ m → MsAt wr (B + k) (if n - 1 < k then cnt (pre R (i + 1)) k else cnt (pre R i) k) (if n - 1 < k then (sm (pre R (i + 1)) k).length else (sm (pre R i) k).length) := fun k hk => by
                    by_cases e : k = n
                    · subst e
                      rw [if_pos (by omega), if_pos (by omega)]
                      exact ⟨E, hoE.mono (by omega), hE2⟩
                    · have h0 := (HMn.out k hk).kept (hbt.out.block _ (by omega) (by omega))
                      by_cases e2 : n < k
                      · rw [if_pos e2, if_pos e2] at h0
                        rw [if_pos (by omega), if_pos (by omega)]; exact h0
                      · rw [if_neg e2, if_neg e2] at h0
                        rw [if_neg (by omega), if_neg (by omega)]; exact h0
                  clear hrg hoE hrE hbt hE2 hN2 hX HMn hc0 hl0
                  replace hX2 := Lib.hid hX2
                  replace hM2 := Lib.hid hM2
                  go_wp2
                  go_roundw
                  case rel => exact ⟨n - 1, by omega, congrArg _ (by omega), hX2, hM2⟩
                  all_goals first | (simp [intOf]; done) | (simp [intOf]; omega)
                · intro x c w1 ct1 hwx hwc hlx hat hrg1 hlt1 hg1 hs1 hen
                  obtain ⟨hx, rfl, hcp⟩ := hrD.out.hit hat
                  obtain ⟨kd1, kd2⟩ := KD.out x
                  obtain ⟨kx0, kx1⟩ := kd2 hcp
                  have ke := KE.out (x + r)
                  have hoE1 := hoE.kept hg1 (fun e => by have := Option.some.inj e; omega)
                  have hbt1 := hbt.out.by_ hg1 hrs (fun j hj => .inl (by have := Option.some.inj hj; omega))
                  have cgn : w1.cell? ⟨g, n, none⟩ = some (.map (some (B + n))) := (hbt1.cell (show g < rb by omega) (show g ≠ B + n by omega)).trans cg
                  have Lg1 : g < w1.heap.size := by omega
                  have wx1 := IntWalk.i64_in (x + r) (by omega)
                  have wfx : (Lit.int .i64 (x + r)).wf = true := wfI (by omega) (by omega)
                  clear kd2 hat hbt
                  replace hx := Lib.hid hx
                  replace hlx := Lib.hid hlx
                  replace hbt1 := Lib.hid hbt1
                  go_wp2_with (at_lookup; refine wpList.stop ?_)
                  refine ⟨?_⟩
                  refine wpList_lookup_own_int _ rfl _ _ 183 rfl 3 3 .i64 keyI Tryz.underlying183 Tryz.underlying3 (zeroI _) (B + n) _ E rfl hoE1 _ _ rfl (keyOf_int_mk Tryz.underlying3 wfx) ?_
                  intro c2 hat2 hwc2
                  obtain rfl : c2 = fE (x + r) := by have h := hrE.out.look hat2; rw [upF_now hlx.out] at h; exact h
                  have ew : IntKind.i64.wrap ((fE (x + r) : Int) + (fD x : Int)) = ((fE (x + r) + fD x : Nat) : Int) := by rw [IntWalk.i64_in _ (by omega)]; omega
                  have wfc : (Lit.int .i64 ((fE (x + r) + fD x : Nat) : Int)).wf = true := wfI (by omega) (by omega)
                  clear hat2
                  go_wp2_with (at_mapUpdate; refine wpList.stop ?_)
                  refine ⟨?_⟩
                  refine wpList_mapUpdate_own _ rfl _ _ _ 183 rfl 3 3 keyI Tryz.underlying183 _ (B + n) _ E rfl hoE1 (by unfold maxLen; omega) _ _ _ rfl rfl (keyOf_int_mk Tryz.underlying3 wfx) _ [] (plainElem_int Tryz.underlying3 wfc) ?_
                  intro w2 hoE2 hg2
                  have hrg2 := hrg1.kept hg2 (fun e => by have := Option.some.inj e; omega) (fun e => by have := Option.some.inj e; omega)
                  have hbt2 := hbt1.out.by_ hg2 (by omega) (fun j hj => .inr (Option.some.inj hj).symm)
                  have hrE2 := (hrE.out.put (x + r) (c := fE (x + r) + fD x) (by omega)).eq (upF_next hx.out)
                  have sz2 : rb ≤ w2.heap.size := by have := hg2.size; omega
                  have hrgL := hrg.left_eq
                  have hrgL2 := hrg2.left_eq
                  replace hbt2 := Lib.hid hbt2
                  replace hrE2 := Lib.hid hrE2
                  clear hoE1 hrE hrg hg1 hg2 hrg1 hbt1 hen hx hlx hoE
                  go_wp2
                  go_frame
                  go_roundw
                  case rel => exact ⟨_, ct1, _, hrg2, by omega, hoE2.mono (by omega), hrE2, hbt2, sz2⟩
                  case measure => rw [hrgL2, hrgL]; exact hlt1
            · have q3d : ((0 : Int) < (n : Int)) = False := eq_false (by omega)
              go_wp2
              go_roundw
              case rel => exact ⟨i + 1, by omega, by go_num, hX, Lib.hid fun k hk => by
                have h0 := HMn.out k hk
                by_cases e : n < k
                · rw [if_pos e, if_pos e] at h0; exact h0
                · obtain rfl : k = 0 := by omega
                  rw [if_neg e, if_neg e] at h0
                  exact h0.eq (by funext s; rw [cnt_zero, cnt_zero]) (by rw [sm_zero, sm_zero]; exact Nat.le_refl _)⟩
              all_goals first | (simp [intOf]; done) | (simp [intOf]; omega)
        · have q2d : ((i : Int) < (R.length : Int)) = False := eq_false (by omega)
          have hi2 : i = R.length := by omega
          have hPl : (pre R i).length ≤ 20 := by rw [pre_len (by omega)]; omega
          have hPb : ∀ x ∈ pre R i, 0 ≤ x ∧ x ≤ 1000 := fun x hx => HRB.out x (List.mem_of_mem_take (List.mem_reverse.1 hx))
          obtain ⟨D, hoD, hrD⟩ := HMs.out la.length (by omega)
          obtain ⟨nD, hnD⟩ : ∃ z, (sm (pre R i) la.length).length = z := ⟨_, rfl⟩
          rw [hnD] at hoD
          obtain ⟨S, hS⟩ : ∃ S, sm (pre R i) la.length = S := ⟨_, rfl⟩
          have hSl : S.length ≤ 1048576 := hS ▸ sm_bd20 hPl la.length
          have KD := Lib.hid (fun s : Int => And.intro (show S.count s ≤ 1048576 from hS ▸ cnt_bd hPl la.length s) (fun h : 0 < S.count s => cnt_key (k := la.length) hPl hPb (show 0 < cnt (pre R i) la.length s by unfold cnt; rw [hS]; exact h)))
          have hrS : Rd D (fun s => S.count s) := by rw [← hS]; exact hrD
          have HP := Lib.hid (show S.Perm (sm R la.length) by rw [← hS, hi2]; exact sm_perm (pre_perm R) la.length)
          have bs := owns_size hoD
          clear hPl hPb hrD hnD hS HMs hi2 hi1
          have cp := hX.out.ms.at la.length (msA_at (base := B) (n := n1) (i := n1) (show la.length < n1 by omega) (by omega))
          have Lg := hX.out.ms.lt
          have szi := hX.out.sz
          have wn5 : (la.length : Int) < (n1 : Int) := by omega
          replace hrS := Lib.hid hrS
          go_wp2_with (at_range; refine wpList.stop ?_)
          refine ⟨?_⟩
          refine wpList_range_own _ rfl _ 183 rfl 3 3 keyI Tryz.underlying183 _ (B + la.length) _ D rfl hoD ?_
          intro w0 hrg0 hg0 hs0
          obtain ⟨rb, hrb⟩ : ∃ z, z = wo.heap.size := ⟨_, rfl⟩
          have hb0 : Btw rb rb wo w0 := by rw [hrb]; exact (Btw.refl _ _ _).by_ hg0 (Nat.le_refl _) (fun j hj => by cases hj)
          have rb1 : B + n1 ≤ rb := by omega
          have rb2 : rb ≤ w0.heap.size := by omega
          rw [← hrb] at hrg0 ⊢
          clear hoD hg0 cp hrb Lg
          go_wp2
          go_frame
          go_loopw [17, 18] (fun s17 s18 wq => ∃ (left : Lit → Bool) (ct : Nat), wq.ranges Tryz.prog 3 (plainElem Tryz.prog 3) (B + la.length) rb nD D left ct ∧ s17 = .int .i64 (S.countP (fun s => vsB D left s && farB M F s) : Nat) ∧ s18 = .int .i64 (S.countP (fun s => vsB D left s && (fun _ => true) s) : Nat) ∧ Hid (Btw rb rb wo wq) ∧ rb ≤ wq.heap.size) (fun _ _ wq => wq.rangeLeft (B + la.length) rb)
          case atStart => exact ⟨_, _, hrg0, by rw [countP_start]; rfl, by rw [countP_start]; rfl, Lib.hid hb0, rb2⟩
          case round =>
            clear hrg0 hb0
            obtain ⟨left, ct, hrg, rfl, rfl, hbt, hrs⟩ := hrel
            have bk1 : S.countP (fun s => vsB D left s && farB M F s) ≤ 1048576 := Nat.le_trans List.countP_le_length hSl
            have bk2 : S.countP (fun s => vsB D left s && (fun _ => true) s) ≤ 1048576 := Nat.le_trans List.countP_le_length hSl
            obtain ⟨k1, hk1⟩ : ∃ z, S.countP (fun s => vsB D left s && farB M F s) = z := ⟨_, rfl⟩
            obtain ⟨k2, hk2⟩ : ∃ z, S.countP (fun s => vsB D left s && (fun _ => true) s) = z := ⟨_, rfl⟩
            rw [hk1] at bk1 ⊢
            rw [hk2] at bk2 ⊢
            replace hk1 := Lib.hid hk1
            replace hk2 := Lib.hid hk2
            go_wp2_with (at_next; refine wpList.stop ?_)
            refine ⟨?_⟩
            refine wpList_next_ranges_ii _ rfl _ rfl 3 3 .i64 .i64 keyI Tryz.underlying3 Tryz.underlying3 (B + la.length) rb _ _ _ _ rfl hrg ?_ ?_
            · intro hc0 hl0
              have hX2 : Fx w w.heap.size w4.heap.size g br or B n1 M R wr := hX.out.btw hbt.out oB mB rB gB (by omega) (by omega)
              have e1 : k1 = somK R la.length := by
                rw [← hk1.out, countP_end (farB M F) hrS.out hl0, HP.out.countP_eq]
                unfold somK
                rw [← HF.out, HTS.out, ← HM.out]
              have e2 : k2 = allK R la.length := by
                rw [← hk2.out, countP_end (fun _ => true) hrS.out hl0, HP.out.countP_eq]
                unfold allK
                exact List.countP_eq_length.2 fun _ _ => rfl
              have p1 := somK_pos (R := R) (m := la.length) (by omega)
              have p2 := somK_le R la.length
              have kp : 1 ≤ k2 := by omega
              have HQ2 := Lib.hid (show ((k1 : Int) : Rat) / ((k2 : Int) : Rat) = q by rw [e1, e2]; exact HQ.out)
              have hs := hX2.hs
              have Blo := hX2.out
              clear hrg hbt hX hX2 hk1 hk2 e1 e2 p1 p2 hrS HP KD
              go_wp2_with fail
              refine (p_New_calls (k1 : Int) (k2 : Int) wr (by omega) (by omega) (by omega) (by omega) (by omega)).mono ?_
              rintro e w12 ⟨_, rfl, h2, hbb⟩
              rw [HQ2.out] at h2
              obtain ⟨sh2, ah2, nh2, ch2, Ah2, Nh2, Ch2, rfl⟩ := h2.shape
              replace hs := bStep hs hbb
              replace Blo := Blo.mono hbb
              clear hbb
              go_upto_region 31 with fail
              refine Code.abs ?_
              intro w13 hW
              have hbb : Below w12.heap.size w12 w13 := by rw [hW]; exact (Below.refl _ _).alloc (Nat.le_refl _) _
              have Blx : Bx w13 w12.heap.size 29 #[.bool sh2, .slice ah2 nh2 ch2, .slice Ah2 Nh2 Ch2] := by rw [hW]; exact (Bx.new0 _ _ _)
              have lo12 := Blo.lt
              replace hs := bStep hs hbb
              replace Blo := Blo.mono hbb
              replace h2 := h2.mono hbb
              clear hbb hW
              have cx_0 := Blx.at 0 rfl
              have cx_1 := Blx.at 1 rfl
              have cx_2 := Blx.at 2 rfl
              have Lx := Blx.lt
              have ck_0 := Blo.at 0 rfl
              have ck_1 := Blo.at 1 rfl
              have ck_2 := Blo.at 2 rfl
              have fk := Blo.free
              have Lk := Blo.lt
              go_wp2
              clear cx_0 cx_1 cx_2 ck_0 ck_1 ck_2 fk Lx Lk
              refine bodyPost.abs ?_
              intro w24 hW
              have hG : Gr [w.heap.size] w13 w24 := by rw [hW]; exact (Gr.refl _ _).set.set.set
              have hsz := hs.size
              have lk := Blo.lt
              have hbw : Below w.heap.size w13 w24 := hG.below1 hs.size (by first | omega | assumption)
              have hk : KeepD w13 w24 := hG.keep ⟨⟨_, Blo.ty, by decide⟩, True.intro⟩
              have Bl1k : Bx w24 (w.heap.size) 29 #[.bool sh2, .slice ah2 nh2 ch2, .slice Ah2 Nh2 Ch2] := by rw [hW]; exact Blo.set3
              replace hs := hs.trans hbw
              replace h2 := h2.keep hk
              clear hW hG hk hbw hsz lk
              have ck_0 : w24.cell? ⟨w.heap.size, 0, none⟩ = some (.bool sh2) := Bl1k.at 0 rfl
              have ck_1 : w24.cell? ⟨w.heap.size, 1, none⟩ = some (.slice ah2 nh2 ch2) := Bl1k.at 1 rfl
              have ck_2 : w24.cell? ⟨w.heap.size, 2, none⟩ = some (.slice Ah2 Nh2 Ch2) := Bl1k.at 2 rfl
              exact bodyPost_ret (v := .agg #[.bool sh2, .slice ah2 nh2 ch2, .slice Ah2 Nh2 Ch2]) (by simp [results, Tryz.results85, go_sem, ck_0, ck_1, ck_2]) rfl ⟨_, rfl, h2, hs⟩
            · intro x c w1 ct1 hwx hwc hlx hat hrg1 hlt1 hg1 hs1 hen
              obtain ⟨hx, rfl, hcp⟩ := hrS.out.hit hat
              obtain ⟨kd1, kd2⟩ := KD.out x
              obtain ⟨kx0, kx1⟩ := kd2 hcp
              obtain ⟨k3, hk3⟩ : ∃ z, S.count x = z := ⟨_, rfl⟩
              rw [hk3] at hen hcp kd1
              have hbt1 := hbt.out.by_ hg1 hrs (fun j hj => .inl (by have := Option.some.inj hj; omega))
              have hX1 : Fx w w.heap.size w4.heap.size g br or B n1 M R w1 := hX.out.btw hbt1 oB mB rB gB (by omega) (by omega)
              have Blm := hX1.mid
              have wk := IntWalk.i64_in ((k2 : Int) + (k3 : Int)) (by omega)
              obtain ⟨f1, hf1⟩ : ∃ z, offI M x = z := ⟨_, rfl⟩
              have fb : farB M F x = decide (F ≤ f1) := by unfold farB; rw [hf1]
              have n1x := countP_next (vsB D left) (farB M F) x (vsB_was hlx) S
              have n2x := countP_next (vsB D left) (fun _ => true) x (vsB_was hlx) S
              rw [hk1.out, hk3, fb] at n1x
              rw [hk2.out, hk3, if_pos rfl] at n2x
              have ef : (fun s => vsB D (fun z => left z && !z.sameKey (.int .i64 x)) s) = (fun s => vsB D left s || decide (s = x)) := funext fun s => vsB_next hx s
              have e1 : S.countP (fun s => vsB D (fun z => left z && !z.sameKey (.int .i64 x)) s && farB M F s) = k1 + if decide (F ≤ f1) = true then k3 else 0 := by
                rw [← n1x]; congr 1; funext s; rw [vsB_next hx]
              have e2 : S.countP (fun s => vsB D (fun z => left z && !z.sameKey (.int .i64 x)) s && (fun _ => true) s) = k2 + k3 := by
                rw [← n2x]; congr 1; funext s; rw [vsB_next hx]
              have hrgL := hrg.left_eq
              have hf2 := Lib.hid hf1
              replace e1 := Lib.hid e1
              replace e2 := Lib.hid e2
              replace hbt1 := Lib.hid hbt1
              clear n1x n2x ef hat kd2 hx hk3 hrg hg1 hX1 hf1 fb hbt hlx
              go_wp2_with fail
              clear hen
              refine (al_off w1 Blm hf2.out (by omega) (by omega) (by omega) (by omega)).mono ?_
              rintro e w2 ⟨rfl, hbb⟩
              have hgw : w1.grownBy w2 none := ⟨hbb.os, hbb.tape, hbb.output, hbb.size, fun k hk _ => hbb.block k hk⟩
              have hrg2 := hrg1.kept hgw (by simp) (by simp)
              have hbt2 := Lib.hid (hbt1.out.by_ hgw (by omega) (fun j hj => by cases hj))
              have sz2 : rb ≤ w2.heap.size := by have := hbb.size; omega
              have hrgL2 := hrg2.left_eq
              clear hbb hgw hrg1 hbt1 Blm
              have wk2 := IntWalk.i64_in ((k1 : Int) + (k3 : Int)) (by omega)
              by_cases hf : F ≤ f1
              · have qd : (F ≤ f1) = True := eq_true hf
                go_wp2
                go_roundw
                case rel => exact ⟨_, ct1, hrg2, by rw [e1.out, if_pos (decide_eq_true hf)]; simp, by rw [e2.out]; simp, hbt2, sz2⟩
                case measure => rw [hrgL2, hrgL]; exact hlt1
              · have qd : (F ≤ f1) = False := eq_false hf
                go_wp2
                go_roundw
                case rel => exact ⟨_, ct1, hrg2, by rw [e1.out, if_neg (by simpa using hf)]; simp, by rw [e2.out]; simp, hbt2, sz2⟩
                case measure => rw [hrgL2, hrgL]; exact hlt1
end Go.Proofs.YtmnipggjjcmjkaaGreat
