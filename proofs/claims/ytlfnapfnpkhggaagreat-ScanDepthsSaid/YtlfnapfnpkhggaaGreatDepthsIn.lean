/-
  ScanDepths returns true for every input, and leaves its arguments as they were: no condition.
-/
import Derived.Test.YtlfnapfnpkhggaaGreatRows
import Derived.Test.YtlfnapfnpkhggaaGreatLawDepths
import Derived.Test.YtlfnapfnpkhggaaGreatPkLawF
import Derived.Test.YtlfnapfnpkhggaaGreatPkRead
import Derived.Test.YtlfnapfnpkhggaaGreatPeakAw
import Derived.ProofKit
import Derived.OpenShut
import Derived.ShutString
import Derived.ChangeOld
import Derived.Below
set_option linter.unusedSimpArgs false
set_option linter.unusedVariables false
namespace Go.Proofs.YtlfnapfnpkhggaaGreat
open Go.ChangeShapes Go.WideShapes Go.ChangeAt Go.RowKit

theorem own_ : ownKnob Tryz.prog.godebug = none := by kernel_rfl
theorem laidOut_ : laidOutB Tryz.prog = true := by kernel_rfl

theorem l7_ScanDepths_calls (v : Value) (l : List (Int × Int)) (n1 d1 n2 d2 n3 d3 n4 d4 n5 d5 n6 d6 : Int) (w : World) (hl : RowsI 2 FC w v l) (hok : ∀ x ∈ l, DOk x) (o1 : DOk (n1, d1)) (o2 : DOk (n2, d2)) (o3 : DOk (n3, d3)) (o4 : DOk (n4, d4)) (o5 : DOk (n5, d5)) (o6 : DOk (n6, d6)) :
    Calls Tryz.prog 7 #[.agg #[.int .i64 n1, .int .i64 d1, .int .i64 n2, .int .i64 d2], .agg #[.int .i64 n3, .int .i64 d3, .int .i64 n4, .int .i64 d4], .agg #[.int .i64 n5, .int .i64 d5, .int .i64 n6, .int .i64 d6], v] w (RetV w (.bool true)) := by
  have hAw : ∀ w : World, Calls Tryz.prog 12 #[] w (RetV w (.bool true)) := fun w => l7_awake_of peak_ok w
  by_cases a1 : [(n1, d1), (n2, d2)].all shortF = true
  · by_cases a2 : [(n3, d3), (n4, d4)].all shortF = true
    · by_cases a3 : [(n5, d5), (n6, d6)].all shortF = true
      · by_cases a4 : l.all shortF = true
        · by_cases a5 : 20 < l.length
          · exact l7_ScanDepths_long hAw v l n1 d1 n2 d2 n3 d3 n4 d4 n5 d5 n6 d6 w hl a1 a2 a3 a4 a5
          · exact l7_ScanDepths_ok hAw v l n1 d1 n2 d2 n3 d3 n4 d4 n5 d5 n6 d6 w hl hok o1 o2 o3 o4 o5 o6 a1 a2 a3 a4 (by omega) _ rfl _ _ _ _ _ _ rfl rfl rfl rfl rfl rfl _ _ _ _ _ _ rfl rfl
        · exact l7_ScanDepths_bad4 hAw v l n1 d1 n2 d2 n3 d3 n4 d4 n5 d5 n6 d6 w hl a1 a2 a3 a4
      · exact l7_ScanDepths_bad3 hAw v l n1 d1 n2 d2 n3 d3 n4 d4 n5 d5 n6 d6 w hl a1 a2 a3
    · exact l7_ScanDepths_bad2 hAw v l n1 d1 n2 d2 n3 d3 n4 d4 n5 d5 n6 d6 w hl a1 a2
  · exact l7_ScanDepths_bad1 hAw v l n1 d1 n2 d2 n3 d3 n4 d4 n5 d5 n6 d6 w hl a1

set_option maxRecDepth 100000 in
theorem scanDepths_lifted (os : Os) (started : os.Started) (H : Type) (enc : TypeId × Value → H) :
    ReturnsInHanded {} Tryz.checked os 7 .any (Rows.scanDepthsSpec.pre6 enc Tryz.prog Tryz.f7 Rows.scanDepthsRow.domain false) (Rows.scanDepthsSpec.post enc Tryz.prog Tryz.f7 false true false false) := by
  refine returnsInHanded_of_change (C := Tryz.checked) own_ started (by kernel_rfl) Tryz.func7
    (ChangeSpec.witness6 (enc := enc) (C := Tryz.checked) false ⟨#[], #[.agg #[.int .i64 0, .int .i64 0, .int .i64 0, .int .i64 0], .agg #[.int .i64 0, .int .i64 0, .int .i64 0, .int .i64 0], .agg #[.int .i64 0, .int .i64 0, .int .i64 0, .int .i64 0], .slice none 0 0], []⟩ 8 (by kernel_rfl) (by kernel_rfl) (by kernel_rfl) (by kernel_rfl)) ?_
  intro W base args ds gs before hval0 hW hcnd _
  have hval : ∀ (j : Nat) t v, Tryz.f7.params[j]? = some t → args[j]? = some v → Value.okWide Tryz.prog W .any base t v := hval0
  have hW' := hW
  obtain ⟨p, q, hA0, hV, rfl, hfz, hnd⟩ := hW
  have hA : DataW.TrodAll enc Tryz.prog W 0 (fun _ => true) true Tryz.f7.params.toList args.toList ds p := hA0
  rw [Tryz.params7] at hA hval
  obtain ⟨v0, vs0, d0, ds0, p0, q0, hargs, rfl, rfl, h0, r0⟩ := trodAll_cons hA
  obtain ⟨v1, vs1, d1, ds1, p1, q1, rfl, rfl, rfl, h1, r1⟩ := trodAll_cons r0
  obtain ⟨v2, vs2, d2, ds2, p2, q2, rfl, rfl, rfl, h2, r2⟩ := trodAll_cons r1
  obtain ⟨v3, vs3, d3, ds3, p3, q3, rfl, rfl, rfl, h3, r3⟩ := trodAll_cons r2
  obtain ⟨rfl, rfl, rfl⟩ := trodAll_nil r3
  obtain rfl : args = #[v0, v1, v2, v3] := by cases args; simp_all
  obtain ⟨rfl, rfl⟩ := trodVars_none hV
  have k0 := h0
  have k1 := h1
  have k2 := h2
  have k3 := h3
  have lt0 : ∀ x ∈ p0, x.block < W.heap.size := by obtain ⟨m, hm⟩ := k0; exact DataW.trod_lt m _ _ _ hm
  have lt1 : ∀ x ∈ p1, x.block < W.heap.size := by obtain ⟨m, hm⟩ := k1; exact DataW.trod_lt m _ _ _ hm
  have lt2 : ∀ x ∈ p2, x.block < W.heap.size := by obtain ⟨m, hm⟩ := k2; exact DataW.trod_lt m _ _ _ hm
  have lt3 : ∀ x ∈ p3, x.block < W.heap.size := by obtain ⟨m, hm⟩ := k3; exact DataW.trod_lt m _ _ _ hm
  obtain ⟨n1, e1, n2, e2, rfl, o1, o2⟩ := open_pair (hval 0 83 v0 rfl rfl) h0
  obtain ⟨n3, e3, n4, e4, rfl, o3, o4⟩ := open_pair (hval 1 83 v1 rfl rfl) h1
  obtain ⟨n5, e5, n6, e6, rfl, o5, o6⟩ := open_pair (hval 2 83 v2 rfl rfl) h2
  obtain ⟨l3, hl3, hok3⟩ := rowsI_in (R := FC) Tryz.underlying69 (show Tryz.prog.cellsOf 82 = 2 from by kernel_rfl) (fun n cs x hx => trod_fracC hx) (hval 3 69 v3 rfl rfl) h3
  clear hA0 hval0
  refine (l7_ScanDepths_calls v3 l3 n1 e1 n2 e2 n3 e3 n4 e4 n5 e5 n6 e6 W hl3 hok3 o1 o2 o3 o4 o5 o6).mono fun e W' ⟨he, bel⟩ => ?_
  subst he
  exact ⟨_, rfl, _, _, _, [], _, [], hW', trodAll_mk1 (shut_bool Tryz.underlying4 _), (trodAll_cons_mk (Below.trod laidOut_ (by kernel_rfl) (of_decide_eq_true (by kernel_rfl)) k0 bel lt0) (trodAll_cons_mk (Below.trod laidOut_ (by kernel_rfl) (of_decide_eq_true (by kernel_rfl)) k1 bel lt1) (trodAll_cons_mk (Below.trod laidOut_ (by kernel_rfl) (of_decide_eq_true (by kernel_rfl)) k2 bel lt2) (trodAll_cons_mk (Below.trod laidOut_ (by kernel_rfl) (of_decide_eq_true (by kernel_rfl)) k3 bel lt3) trodAll_mk0)))), rfl, bel.frame _, fun h => by cases h⟩

theorem scanDepths_over : Rows.scanDepthsRow.holds Tryz.pinned (OpenSpec.ofChange Rows.scanDepthsSpec) :=
  OpenClaim.holds_of_wide 7 Tryz.f7 rfl rfl rfl rfl rfl rfl rfl ⟨rfl, rfl, rfl, rfl, rfl⟩ rfl rfl rfl rfl rfl (by kernel_rfl) Tryz.func7 (by kernel_rfl)
    (of_decide_eq_true (by kernel_rfl)) (by unfold Func.isWrapper; rw [if_neg (of_decide_eq_false (by kernel_rfl))]; exact ⟨rfl, rfl⟩)
    (fun os started H enc _ => scanDepths_lifted os started H enc)

theorem scanDepths_holds : Rows.ScanDepthsSaid := scanDepths_over
end Go.Proofs.YtlfnapfnpkhggaaGreat
