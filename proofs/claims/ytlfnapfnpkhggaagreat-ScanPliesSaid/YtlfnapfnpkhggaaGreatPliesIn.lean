/-
  ScanPlies returns true for every input, and leaves its arguments as they were: no condition.
-/
import Derived.Test.YtlfnapfnpkhggaaGreatRows
import Derived.Test.YtlfnapfnpkhggaaGreatLawPlies
import Derived.Test.YtlfnapfnpkhggaaGreatPkLawF
import Derived.Test.YtlfnapfnpkhggaaGreatReadPair
import Derived.Test.YtlfnapfnpkhggaaGreatPeakAw
import Derived.ProofKit
import Derived.OpenShut
import Derived.ShutString
import Derived.ChangeOld
import Derived.Below
set_option linter.unusedSimpArgs false
set_option linter.unusedVariables false
namespace Go.Proofs.YtlfnapfnpkhggaaGreat
open Go.ChangeShapes Go.WideShapes Go.ChangeAt Go.RowKit

theorem own_ : ownKnob Tryz.prog.godebug = none := by kernel_rfl
theorem laidOut_ : laidOutB Tryz.prog = true := by kernel_rfl

theorem l7_ScanPlies_calls (v : Value) (l : List (Int × Int)) (n1 d1 n2 d2 p : Int) (w : World) (hl : RowsI 2 FC w v l) (hok : ∀ x ∈ l, DOk x) (o1 : DOk (n1, d1)) (o2 : DOk (n2, d2)) (hp0 : 0 ≤ p) (hp1 : p ≤ 255) :
    Calls Tryz.prog 6 #[v, .agg #[.int .i64 n1, .int .i64 d1, .int .i64 n2, .int .i64 d2], .int .u8 p] w (RetV w (.bool true)) := by
  have hAw : ∀ w : World, Calls Tryz.prog 12 #[] w (RetV w (.bool true)) := fun w => l7_awake_of peak_ok w
  by_cases a1 : l.all shortF = true
  · by_cases a2 : [(n1, d1), (n2, d2)].all shortF = true
    · by_cases a3 : l.length ≤ 12
      · by_cases a4 : l.length = 0
        · exact l7_ScanPlies_none hAw v l n1 d1 n2 d2 p w hl hok o1 o2 hp0 hp1 _ _ _ _ rfl rfl rfl rfl a1 a2 a3 a4
        · by_cases a5 : allPos (l.map frF) = true
          · by_cases a6 : plF (l.map frF) (mnQ (fracQ n1 d1) (fracQ n2 d2)) (mxQ (fracQ n1 d1) (fracQ n2 d2)) (l.map frF).length < 0
            · exact l7_ScanPlies_no hAw v l n1 d1 n2 d2 p w hl hok o1 o2 hp0 hp1 _ _ _ _ rfl rfl rfl rfl a1 a2 a3 (by omega) a5 a6
            · exact l7_ScanPlies_yes hAw v l n1 d1 n2 d2 p w hl hok o1 o2 hp0 hp1 _ _ _ _ rfl rfl rfl rfl a1 a2 a3 (by omega) a5 a6
          · exact l7_ScanPlies_pos hAw v l n1 d1 n2 d2 p w hl hok o1 o2 hp0 hp1 _ _ _ _ rfl rfl rfl rfl a1 a2 a3 (by omega) (by simpa using a5)
      · exact l7_ScanPlies_long hAw v l n1 d1 n2 d2 p w hl a1 a2 (by omega)
    · exact l7_ScanPlies_bad2 hAw v l n1 d1 n2 d2 p w hl a1 a2
  · exact l7_ScanPlies_bad1 hAw v l n1 d1 n2 d2 p w hl a1

theorem wf_u8 {n : Int} (h : (Lit.int .u8 n).wf = true) : 0 ≤ n ∧ n ≤ 255 := by
  simpa [Lit.wf, IntKind.min, IntKind.max, IntKind.signed, IntKind.bits] using h

set_option maxRecDepth 100000 in
theorem plies_lifted (os : Os) (started : os.Started) (H : Type) (enc : TypeId × Value → H) :
    ReturnsInHanded {} Tryz.checked os 6 .any (Rows.scanPliesSpec.pre6 enc Tryz.prog Tryz.f6 Rows.scanPliesRow.domain false) (Rows.scanPliesSpec.post enc Tryz.prog Tryz.f6 false true false false) := by
  refine returnsInHanded_of_change (C := Tryz.checked) own_ started (by kernel_rfl) Tryz.func6
    (ChangeSpec.witness6 (enc := enc) (C := Tryz.checked) false ⟨#[], #[.slice none 0 0, .agg #[.int .i64 0, .int .i64 0, .int .i64 0, .int .i64 0], .int .u8 0], []⟩ 8 (by kernel_rfl) (by kernel_rfl) (by kernel_rfl) (by kernel_rfl)) ?_
  intro W base args ds gs before hval0 hW hcnd _
  have hval : ∀ (j : Nat) t v, Tryz.f6.params[j]? = some t → args[j]? = some v → Value.okWide Tryz.prog W .any base t v := hval0
  have hW' := hW
  obtain ⟨p, q, hA0, hV, rfl, hfz, hnd⟩ := hW
  have hA : DataW.TrodAll enc Tryz.prog W 0 (fun _ => true) true Tryz.f6.params.toList args.toList ds p := hA0
  rw [Tryz.params6] at hA hval
  obtain ⟨v0, vs0, d0, ds0, p0, q0, hargs, rfl, rfl, h0, r0⟩ := trodAll_cons hA
  obtain ⟨v1, vs1, d1, ds1, p1, q1, rfl, rfl, rfl, h1, r1⟩ := trodAll_cons r0
  obtain ⟨v2, vs2, d2, ds2, p2, q2, rfl, rfl, rfl, h2, r2⟩ := trodAll_cons r1
  obtain ⟨rfl, rfl, rfl⟩ := trodAll_nil r2
  obtain rfl : args = #[v0, v1, v2] := by cases args; simp_all
  obtain ⟨rfl, rfl⟩ := trodVars_none hV
  have k0 := h0
  have k1 := h1
  have k2 := h2
  have lt0 : ∀ x ∈ p0, x.block < W.heap.size := by obtain ⟨m, hm⟩ := k0; exact DataW.trod_lt m _ _ _ hm
  have lt1 : ∀ x ∈ p1, x.block < W.heap.size := by obtain ⟨m, hm⟩ := k1; exact DataW.trod_lt m _ _ _ hm
  have lt2 : ∀ x ∈ p2, x.block < W.heap.size := by obtain ⟨m, hm⟩ := k2; exact DataW.trod_lt m _ _ _ hm
  obtain ⟨l, hl, hok⟩ := rowsI_in (R := FC) Tryz.underlying69 (show Tryz.prog.cellsOf 82 = 2 from by kernel_rfl) (fun n cs x hx => trod_fracC hx) (hval 0 69 v0 rfl rfl) h0
  obtain ⟨n1, e1, n2, e2, rfl, o1, o2⟩ := open_pair (hval 1 83 v1 rfl rfl) h1
  obtain ⟨b, rfl, rfl, rfl, wb⟩ := open_int Tryz.underlying5 (hval 2 5 v2 rfl rfl) h2
  clear hA0 hval0
  refine (l7_ScanPlies_calls v0 l n1 e1 n2 e2 b W hl hok o1 o2 (wf_u8 wb).1 (wf_u8 wb).2).mono fun e W' ⟨he, bel⟩ => ?_
  subst he
  exact ⟨_, rfl, _, _, _, [], _, [], hW', trodAll_mk1 (shut_bool Tryz.underlying4 _), (trodAll_cons_mk (Below.trod laidOut_ (by kernel_rfl) (of_decide_eq_true (by kernel_rfl)) k0 bel lt0) (trodAll_cons_mk (Below.trod laidOut_ (by kernel_rfl) (of_decide_eq_true (by kernel_rfl)) k1 bel lt1) (trodAll_cons_mk (Below.trod laidOut_ (by kernel_rfl) (of_decide_eq_true (by kernel_rfl)) k2 bel lt2) trodAll_mk0))), rfl, bel.frame _, fun h => by cases h⟩

theorem plies_over : Rows.scanPliesRow.holds Tryz.pinned (OpenSpec.ofChange Rows.scanPliesSpec) :=
  OpenClaim.holds_of_wide 6 Tryz.f6 rfl rfl rfl rfl rfl rfl rfl ⟨rfl, rfl, rfl, rfl, rfl⟩ rfl rfl rfl rfl rfl (by kernel_rfl) Tryz.func6 (by kernel_rfl)
    (of_decide_eq_true (by kernel_rfl)) (by unfold Func.isWrapper; rw [if_neg (of_decide_eq_false (by kernel_rfl))]; exact ⟨rfl, rfl⟩)
    (fun os started H enc _ => plies_lifted os started H enc)

theorem scanPlies_holds : Rows.ScanPliesSaid := plies_over
end Go.Proofs.YtlfnapfnpkhggaaGreat
