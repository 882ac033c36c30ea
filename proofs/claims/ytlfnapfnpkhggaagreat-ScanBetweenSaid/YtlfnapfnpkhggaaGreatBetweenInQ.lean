/-
  ScanBetween returns true for every input, and leaves its arguments as they were: no condition.
-/
import Derived.Test.YtlfnapfnpkhggaaGreatRows
import Derived.Test.YtlfnapfnpkhggaaGreatLawBetQ
import Derived.Test.YtlfnapfnpkhggaaGreatPkLawFQ
import Derived.Test.YtlfnapfnpkhggaaGreatReadBetQ
import Derived.Test.YtlfnapfnpkhggaaGreatPeakAwQ
import Derived.ProofKit
import Derived.OpenShut
import Derived.ShutString
import Derived.ChangeOld
import Derived.Below
set_option linter.unusedSimpArgs false
set_option linter.unusedVariables false
namespace Go.Proofs.YtlfnapfnpkhggaaGreat
open Go.ChangeShapes Go.WideShapes Go.ChangeAt Go.RowKit

theorem own_ : ownKnob Tryz.prog.godebug = none := by kernel_rfl
theorem laidOut_ : laidOutB Tryz.prog = true := by kernel_rfl

theorem l7_ScanBetween_calls (v : Value) (l : List DP) (n1 d1 n3 d3 n4 d4 b0 b1 n5 d5 n6 d6 : Int) (w : World) (hl : RowsI 4 QC w v l) (hok : ∀ x ∈ l, DOk x.1 ∧ DOk x.2) (o1 : DOk (n1, d1)) (o3 : DOk (n3, d3)) (o4 : DOk (n4, d4)) (p0 : 0 ≤ b0 ∧ b0 ≤ 255) (p1 : 0 ≤ b1 ∧ b1 ≤ 255) (o5 : DOk (n5, d5)) (o6 : DOk (n6, d6)) :
    Calls Tryz.prog 8 #[v, .agg #[.int .i64 n1, .int .i64 d1], .agg #[.int .i64 n3, .int .i64 d3, .int .i64 n4, .int .i64 d4], .agg #[.int .u8 b0, .int .u8 b1], .agg #[.int .i64 n5, .int .i64 d5, .int .i64 n6, .int .i64 d6]] w (RetV w (.bool true)) := by
  have hAw : ∀ w : World, Calls Tryz.prog 12 #[] w (RetV w (.bool true)) := fun w => l7_awake_of peak_ok w
  by_cases a1 : briefQ l = true
  · by_cases a2 : [(n1, d1)].all shortF = true
    · by_cases a3 : [(n3, d3), (n4, d4)].all shortF = true
      · by_cases a4 : [(n5, d5), (n6, d6)].all shortF = true
        · have h20 : l.length ≤ 20 := by unfold briefQ at a1; simp only [Bool.and_eq_true, decide_eq_true_eq] at a1; omega
          exact l7_ScanBetween_ok hAw v l n1 d1 n3 d3 n4 d4 b0 b1 n5 d5 n6 d6 w hl hok o1 o3 o4 o5 o6 p0 p1 a1 a2 a3 a4 h20 _ rfl _ rfl _ _ _ _ rfl rfl rfl rfl _ _ rfl rfl _ _ rfl rfl _ _ rfl _ _ _ _ _ _ rfl rfl _ _ _ _ _ _ rfl rfl
        · exact l7_ScanBetween_bad4 hAw v l n1 d1 n3 d3 n4 d4 b0 b1 n5 d5 n6 d6 w hl a1 a2 a3 a4
      · exact l7_ScanBetween_bad3 hAw v l n1 d1 n3 d3 n4 d4 b0 b1 n5 d5 n6 d6 w hl a1 a2 a3
    · exact l7_ScanBetween_bad2 hAw v l n1 d1 n3 d3 n4 d4 b0 b1 n5 d5 n6 d6 w hl a1 a2
  · exact l7_ScanBetween_bad1 hAw v l n1 d1 n3 d3 n4 d4 b0 b1 n5 d5 n6 d6 w hl a1

theorem wf_u8 {n : Int} (h : (Lit.int .u8 n).wf = true) : 0 ≤ n ∧ n ≤ 255 := by
  simpa [Lit.wf, IntKind.min, IntKind.max, IntKind.signed, IntKind.bits] using h

set_option maxRecDepth 100000 in
theorem scanBetween_lifted (os : Os) (started : os.Started) (H : Type) (enc : TypeId × Value → H) :
    ReturnsInHanded {} Tryz.checked os 8 .any (Rows.scanBetweenSpec.pre6 enc Tryz.prog Tryz.f8 Rows.scanBetweenRow.domain false) (Rows.scanBetweenSpec.post enc Tryz.prog Tryz.f8 false true false false) := by
  refine returnsInHanded_of_change (C := Tryz.checked) own_ started (by kernel_rfl) Tryz.func8
    (ChangeSpec.witness6 (enc := enc) (C := Tryz.checked) false ⟨#[], #[.slice none 0 0, .agg #[.int .i64 0, .int .i64 0], .agg #[.int .i64 0, .int .i64 0, .int .i64 0, .int .i64 0], .agg #[.int .u8 0, .int .u8 0], .agg #[.int .i64 0, .int .i64 0, .int .i64 0, .int .i64 0]], []⟩ 8 (by kernel_rfl) (by kernel_rfl) (by kernel_rfl) (by kernel_rfl)) ?_
  intro W base args ds gs before hval0 hW hcnd _
  have hval : ∀ (j : Nat) t v, Tryz.f8.params[j]? = some t → args[j]? = some v → Value.okWide Tryz.prog W .any base t v := hval0
  have hW' := hW
  obtain ⟨p, q, hA0, hV, rfl, hfz, hnd⟩ := hW
  have hA : DataW.TrodAll enc Tryz.prog W 0 (fun _ => true) true Tryz.f8.params.toList args.toList ds p := hA0
  rw [Tryz.params8] at hA hval
  obtain ⟨v0, vs0, d0, ds0, p0, q0, hargs, rfl, rfl, h0, r0⟩ := trodAll_cons hA
  obtain ⟨v1, vs1, d1, ds1, p1, q1, rfl, rfl, rfl, h1, r1⟩ := trodAll_cons r0
  obtain ⟨v2, vs2, d2, ds2, p2, q2, rfl, rfl, rfl, h2, r2⟩ := trodAll_cons r1
  obtain ⟨v3, vs3, d3, ds3, p3, q3, rfl, rfl, rfl, h3, r3⟩ := trodAll_cons r2
  obtain ⟨v4, vs4, d4, ds4, p4, q4, rfl, rfl, rfl, h4, r4⟩ := trodAll_cons r3
  obtain ⟨rfl, rfl, rfl⟩ := trodAll_nil r4
  obtain rfl : args = #[v0, v1, v2, v3, v4] := by cases args; simp_all
  obtain ⟨rfl, rfl⟩ := trodVars_none hV
  have k0 := h0
  have k1 := h1
  have k2 := h2
  have k3 := h3
  have k4 := h4
  have lt0 : ∀ x ∈ p0, x.block < W.heap.size := by obtain ⟨m, hm⟩ := k0; exact DataW.trod_lt m _ _ _ hm
  have lt1 : ∀ x ∈ p1, x.block < W.heap.size := by obtain ⟨m, hm⟩ := k1; exact DataW.trod_lt m _ _ _ hm
  have lt2 : ∀ x ∈ p2, x.block < W.heap.size := by obtain ⟨m, hm⟩ := k2; exact DataW.trod_lt m _ _ _ hm
  have lt3 : ∀ x ∈ p3, x.block < W.heap.size := by obtain ⟨m, hm⟩ := k3; exact DataW.trod_lt m _ _ _ hm
  have lt4 : ∀ x ∈ p4, x.block < W.heap.size := by obtain ⟨m, hm⟩ := k4; exact DataW.trod_lt m _ _ _ hm
  obtain ⟨l0, hl0, hok0⟩ := rowsI_in (R := QC) Tryz.underlying103 (show Tryz.prog.cellsOf 83 = 4 from by kernel_rfl) (fun n cs x hx => trod_pairC hx) (hval 0 103 v0 rfl rfl) h0
  obtain ⟨n91, e91, rfl, o91⟩ := open_frac (hval 1 82 v1 rfl rfl) h1
  obtain ⟨n1, e1, n2, e2, rfl, o1, o2⟩ := open_pair (hval 2 83 v2 rfl rfl) h2
  obtain ⟨b3a, b3b, rfl, pb3a, pb3b⟩ := open_u8s (hval 3 104 v3 rfl rfl) h3
  obtain ⟨n3, e3, n4, e4, rfl, o3, o4⟩ := open_pair (hval 4 83 v4 rfl rfl) h4
  clear hA0 hval0
  refine (l7_ScanBetween_calls v0 l0 n91 e91 n1 e1 n2 e2 b3a b3b n3 e3 n4 e4 W hl0 hok0 o91 o1 o2 pb3a pb3b o3 o4).mono fun e W' ⟨he, bel⟩ => ?_
  subst he
  exact ⟨_, rfl, _, _, _, [], _, [], hW', trodAll_mk1 (shut_bool Tryz.underlying4 _), (trodAll_cons_mk (Below.trod laidOut_ (by kernel_rfl) (of_decide_eq_true (by kernel_rfl)) k0 bel lt0) (trodAll_cons_mk (Below.trod laidOut_ (by kernel_rfl) (of_decide_eq_true (by kernel_rfl)) k1 bel lt1) (trodAll_cons_mk (Below.trod laidOut_ (by kernel_rfl) (of_decide_eq_true (by kernel_rfl)) k2 bel lt2) (trodAll_cons_mk (Below.trod laidOut_ (by kernel_rfl) (of_decide_eq_true (by kernel_rfl)) k3 bel lt3) (trodAll_cons_mk (Below.trod laidOut_ (by kernel_rfl) (of_decide_eq_true (by kernel_rfl)) k4 bel lt4) trodAll_mk0))))), rfl, bel.frame _, fun h => by cases h⟩

theorem scanBetween_over : Rows.scanBetweenRow.holds Tryz.pinned (OpenSpec.ofChange Rows.scanBetweenSpec) :=
  OpenClaim.holds_of_wide 8 Tryz.f8 rfl rfl rfl rfl rfl rfl rfl ⟨rfl, rfl, rfl, rfl, rfl⟩ rfl rfl rfl rfl rfl (by kernel_rfl) Tryz.func8 (by kernel_rfl)
    (of_decide_eq_true (by kernel_rfl)) (by unfold Func.isWrapper; rw [if_neg (of_decide_eq_false (by kernel_rfl))]; exact ⟨rfl, rfl⟩)
    (fun os started H enc _ => scanBetween_lifted os started H enc)

theorem scanBetween_holds : Rows.ScanBetweenSaid := scanBetween_over
end Go.Proofs.YtlfnapfnpkhggaaGreat
