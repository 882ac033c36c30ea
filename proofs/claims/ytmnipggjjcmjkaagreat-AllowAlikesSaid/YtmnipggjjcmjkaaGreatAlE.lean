/-
  allow: RankSum; a book's first batch.
-/
import Derived.Test.YtmnipggjjcmjkaaGreatAlD
set_option linter.unusedSimpArgs false
set_option linter.unusedVariables false
namespace Go.Proofs.YtmnipggjjcmjkaaGreat
open Go.RowKit Dg
attribute [local go_sem ↓] Go.wp_at_zero Go.wp_at_succ

theorem rkT_bd {L : List Rat} (hL : L.length ≤ 64) (k : Nat) : ∀ x ∈ rkT L k, 0 ≤ x ∧ x ≤ 1000 := fun x hx => by
  unfold rkT at hx
  obtain ⟨i, hi, rfl⟩ := List.mem_map.1 hx
  have b := rnS_bd L (nthQ L i) L.length
  omega
set_option maxRecDepth 100000 in
set_option maxHeartbeats 4000000 in
theorem al_RankSum {va vb : Value} {la lb : List Rat} (w : World) (ha : Rows 3 29 PC w va la) (hb : Rows 3 29 PC w vb lb) (h1 : 1 ≤ la.length) (h2 : 1 ≤ lb.length) (h64 : la.length + lb.length ≤ 64) {L : List Rat} (hLL : L = la ++ lb) (hz : ∀ i, i < L.length → SzQ 100000 (nthQ L i)) {R Q : List Int} (hRR : R = rkT L L.length) (hQ : Q = R.take la.length) {t : Int} (htt : totS Q la.length = t) :
    Calls Tryz.prog 23 #[va, vb] w (RetV w (.tuple #[.int .i64 t, .int .i64 0])) := by
  have hR0 : ∀ x ∈ R, 0 ≤ x ∧ x ≤ 1000 := hRR ▸ rkT_bd (by rw [hLL, List.length_append]; exact h64) _
  have hRb : ∀ x ∈ Q, 0 ≤ x ∧ x ≤ 1000 := fun x hx => hR0 x (List.mem_of_mem_take (hQ ▸ hx))
  have hrl : R.length = la.length + lb.length := by rw [hRR, rkT_len, hLL, List.length_append]
  have hlt : Q.length = la.length := by rw [hQ, List.length_take]; omega
  have hrl1 : la.length ≤ R.length := by omega
  have hrl2 : R.length ≤ 64 := by omega
  have HRB := Lib.hid hRb
  have HRR := Lib.hid hRR
  have HQ := Lib.hid hQ
  have HLT := Lib.hid hlt
  have HTT := Lib.hid htt
  clear hR0 hRb hrl hlt hRR hQ htt
  obtain ⟨ao, c, rfl, hc1, hc2, hc3⟩ := ha.slice
  obtain ⟨bo, d, rfl, hd1, hd2, hd3⟩ := hb.slice
  have hs := Below.refl w.heap.size w
  have hL : L.length = la.length + lb.length := by rw [hLL, List.length_append]
  have HLL := Lib.hid hLL
  have HL := Lib.hid hL
  have HZ := Lib.hid hz
  clear hz hL hLL
  go_enter Tryz.func23, Tryz.ntmps23
  go_wp2_with fail
  refine (al_checkTwo w ha hb h1 h2 h64).mono ?_
  rintro e w1 ⟨rfl, hbb⟩
  replace hs := bStep hs hbb
  replace ha := ha.mono PC.kept hbb
  replace hb := hb.mono PC.kept hbb
  clear hbb
  go_wp2_with fail
  refine Calls.abs ?_
  intro w2 hW
  have Blb : Bx w2 w1.heap.size 46 #[.slice ao la.length c, .slice bo lb.length d] := by rw [hW]; exact Bx.new _ _ _
  have hbb : Below w1.heap.size w1 w2 := by rw [hW]; exact (Below.refl _ _).alloc (Nat.le_refl _) _
  replace hs := bStep hs hbb
  replace ha := ha.mono PC.kept hbb
  replace hb := hb.mono PC.kept hbb
  clear hbb hW
  refine (al_Concat w2 Blb ha hb h1 h2 (by omega)).mono ?_
  rintro e w3 ⟨vc, rfl, hc, hbb⟩
  rw [← HLL.out] at hc
  obtain ⟨bc, oc, cc, rfl, hc4, hc5, -⟩ := hc.open_ (by rw [HL.out]; omega)
  replace hs := bStep hs hbb
  clear hbb ha hb Blb
  go_wp2_with fail
  refine (al_ranks w3 hc (by rw [HL.out]; omega) (by rw [HL.out]; omega) HZ.out).mono ?_
  rintro e w4 ⟨vr, rfl, hr, hbb⟩
  rw [← HRR.out] at hr
  obtain ⟨br, or, cr, rfl, hr4, hr5, -⟩ := hr.open_ (by omega)
  replace hs := bStep hs hbb
  clear hbb hc
  have hr6 : la.length ≤ cr := by omega
  have ht := hr.take la.length _ _ _ rfl hrl1
  rw [← HQ.out] at ht
  have hT := al_total w4 (by rw [← HLT.out] at ht; exact ht) (by rw [HLT.out]; exact h1) (by rw [HLT.out]; omega) HRB.out
  rw [HLT.out, HTT.out] at hT
  have HT := Lib.hid hT
  clear hT ht hr
  go_wp2_with fail
  refine HT.out.mono ?_
  rintro e w5 ⟨rfl, hbb⟩
  replace hs := bStep hs hbb
  clear hbb
  go_wp2
  go_ret2
  exact ⟨rfl, hs⟩
end Go.Proofs.YtmnipggjjcmjkaaGreat
