/-
  The library's tests on floats: bits, NaN, infinities.
-/
import Derived.Test.YtlfnapfnpkhggaaGreatPkScan
import Derived.Laws.Externs
import Derived.Laws.FloatArith
set_option linter.unusedSimpArgs false
set_option linter.unusedVariables false
namespace Go.Proofs.YtlfnapfnpkhggaaGreat
open Go.RowKit Dg
attribute [local go_sem ↓] Go.wp_at_zero Go.wp_at_succ

theorem bits_find : Extern.find Tryz.f65 = some Extern.MathFloatBits.float64bits := by kernel_rfl
theorem frombits_find : Extern.find Tryz.f187 = some Extern.MathFloatBits.float64frombits := by kernel_rfl
theorem run_bits (b : Nat) (w : World) : (callFunc 65 #[.float .f64 b]).run Tryz.prog w = .ok (.value (.int .u64 b)) w := by
  rw [run_callFunc_extern Tryz.func65 (by kernel_rfl) (by kernel_rfl) (by kernel_rfl) bits_find]
  rfl
theorem run_frombits (n : Int) (w : World) : (callFunc 187 #[.int .u64 n]).run Tryz.prog w = .ok (.value (.float .f64 n.toNat)) w := by
  rw [run_callFunc_extern Tryz.func187 (by kernel_rfl) (by kernel_rfl) (by kernel_rfl) frombits_find]
  rfl

set_option maxRecDepth 100000 in
set_option maxHeartbeats 4000000 in
theorem nan_z (w : World) : Calls Tryz.prog 92 #[.float .f64 0] w (RetV w (.bool false)) := by
  go_enter Tryz.func92, Tryz.ntmps92
  go_wp2
  go_ret
  exact ⟨rfl, Below.refl _ _⟩

set_option maxRecDepth 100000 in
set_option maxHeartbeats 4000000 in
theorem nan_p1 (w : World) : Calls Tryz.prog 92 #[.float .f64 4607182418800017408] w (RetV w (.bool false)) := by
  go_enter Tryz.func92, Tryz.ntmps92
  go_wp2
  go_ret
  exact ⟨rfl, Below.refl _ _⟩

set_option maxRecDepth 100000 in
set_option maxHeartbeats 4000000 in
theorem nan_m3 (w : World) : Calls Tryz.prog 92 #[.float .f64 13837309855095848960] w (RetV w (.bool false)) := by
  go_enter Tryz.func92, Tryz.ntmps92
  go_wp2
  go_ret
  exact ⟨rfl, Below.refl _ _⟩

set_option maxRecDepth 100000 in
set_option maxHeartbeats 4000000 in
theorem nan_p3 (w : World) : Calls Tryz.prog 92 #[.float .f64 4613937818241073152] w (RetV w (.bool false)) := by
  go_enter Tryz.func92, Tryz.ntmps92
  go_wp2
  go_ret
  exact ⟨rfl, Below.refl _ _⟩

set_option maxRecDepth 100000 in
set_option maxHeartbeats 4000000 in
theorem nan_p2 (w : World) : Calls Tryz.prog 92 #[.float .f64 4611686018427387904] w (RetV w (.bool false)) := by
  go_enter Tryz.func92, Tryz.ntmps92
  go_wp2
  go_ret
  exact ⟨rfl, Below.refl _ _⟩

set_option maxRecDepth 100000 in
set_option maxHeartbeats 4000000 in
theorem inf_z (w : World) : Calls Tryz.prog 93 #[.float .f64 0, .int .i64 0] w (RetV w (.bool false)) := by
  have hb1 := run_bits
  have hb2 := run_frombits
  go_enter Tryz.func93, Tryz.ntmps93
  go_wp2
  go_ret
  exact ⟨rfl, Below.refl _ _⟩

set_option maxRecDepth 100000 in
set_option maxHeartbeats 4000000 in
theorem inf_p1 (w : World) : Calls Tryz.prog 93 #[.float .f64 4607182418800017408, .int .i64 0] w (RetV w (.bool false)) := by
  have hb1 := run_bits
  have hb2 := run_frombits
  go_enter Tryz.func93, Tryz.ntmps93
  go_wp2
  go_ret
  exact ⟨rfl, Below.refl _ _⟩

set_option maxRecDepth 100000 in
set_option maxHeartbeats 4000000 in
theorem inf_m3 (w : World) : Calls Tryz.prog 93 #[.float .f64 13837309855095848960, .int .i64 0] w (RetV w (.bool false)) := by
  have hb1 := run_bits
  have hb2 := run_frombits
  go_enter Tryz.func93, Tryz.ntmps93
  go_wp2
  go_ret
  exact ⟨rfl, Below.refl _ _⟩

set_option maxRecDepth 100000 in
set_option maxHeartbeats 4000000 in
theorem inf_p3 (w : World) : Calls Tryz.prog 93 #[.float .f64 4613937818241073152, .int .i64 0] w (RetV w (.bool false)) := by
  have hb1 := run_bits
  have hb2 := run_frombits
  go_enter Tryz.func93, Tryz.ntmps93
  go_wp2
  go_ret
  exact ⟨rfl, Below.refl _ _⟩

set_option maxRecDepth 100000 in
set_option maxHeartbeats 4000000 in
theorem inf_p2 (w : World) : Calls Tryz.prog 93 #[.float .f64 4611686018427387904, .int .i64 0] w (RetV w (.bool false)) := by
  have hb1 := run_bits
  have hb2 := run_frombits
  go_enter Tryz.func93, Tryz.ntmps93
  go_wp2
  go_ret
  exact ⟨rfl, Below.refl _ _⟩

end Go.Proofs.YtlfnapfnpkhggaaGreat
/-
  scan's Gate.check at the sample's gate; the sample's floats widened.
-/
namespace Go.Proofs.YtlfnapfnpkhggaaGreat
open Go.RowKit Dg
attribute [local go_sem ↓] Go.wp_at_zero Go.wp_at_succ

theorem wide_z (w : World) : (convert 49 59 (.float .f32 0)).run Tryz.prog w = .ok (.float .f64 0) w := by
  have h := run_convert_float_float (P := Tryz.prog) (w := w) 49 59 .f32 .f64 0 0 (by kernel_rfl) (by kernel_rfl) (by kernel_rfl)
  exact h
theorem wide_p1 (w : World) : (convert 49 59 (.float .f32 1065353216)).run Tryz.prog w = .ok (.float .f64 4607182418800017408) w := by
  have h := run_convert_float_float (P := Tryz.prog) (w := w) 49 59 .f32 .f64 1065353216 4607182418800017408 (by kernel_rfl) (by kernel_rfl) (by kernel_rfl)
  exact h
theorem wide_m3 (w : World) : (convert 49 59 (.float .f32 3225419776)).run Tryz.prog w = .ok (.float .f64 13837309855095848960) w := by
  have h := run_convert_float_float (P := Tryz.prog) (w := w) 49 59 .f32 .f64 3225419776 13837309855095848960 (by kernel_rfl) (by kernel_rfl) (by kernel_rfl)
  exact h
theorem wide_p3 (w : World) : (convert 49 59 (.float .f32 1077936128)).run Tryz.prog w = .ok (.float .f64 4613937818241073152) w := by
  have h := run_convert_float_float (P := Tryz.prog) (w := w) 49 59 .f32 .f64 1077936128 4613937818241073152 (by kernel_rfl) (by kernel_rfl) (by kernel_rfl)
  exact h
theorem wide_p2 (w : World) : (convert 49 59 (.float .f32 1073741824)).run Tryz.prog w = .ok (.float .f64 4611686018427387904) w := by
  have h := run_convert_float_float (P := Tryz.prog) (w := w) 49 59 .f32 .f64 1073741824 4611686018427387904 (by kernel_rfl) (by kernel_rfl) (by kernel_rfl)
  exact h
set_option maxRecDepth 100000 in
set_option maxHeartbeats 4000000 in
theorem sc_check_ok (w : World) : Calls Tryz.prog 86 #[.agg #[.int .i64 0, .int .i64 5, .float .f32 1065353216], .int .i64 5] w (RetV w (.int .i64 0)) := by
  have hs := Below.refl w.heap.size w
  have hcv := wide_p1
  go_enter Tryz.func86, Tryz.ntmps86
  go_wp2_with fail
  refine Calls.abs ?_
  intro w1 hW
  have hsz := hs.size
  have hbw : Below w.heap.size w w1 := by rw [hW]; exact (Below.alloc (Below.refl w.heap.size w) (by first | exact hs.size | (have := hs.size; simp; done) | (have := hs.size; simp; omega)) _)
  have hs1 : Below w.heap.size w w1 := hs.trans hbw
  have hk : KeepD w w1 := by rw [hW]; exact ((KeepD.refl _).alloc _)
  have Bl1g : Bx w1 (w.heap.size) 51 #[.int .i64 0, .int .i64 5, .float .f32 1065353216] := by rw [hW]; exact (Bx.new' _ _ _ _ (by first | rfl | (simp; done)))
  replace hs := hs1
  clear hs1
  have Blg := Bl1g
  clear Bl1g
  clear hW hk hsz hbw
  have hz_w1 : w.heap.size < w1.heap.size := Blg.lt
  refine (nan_p1 _).mono ?_
  rintro e w2 ⟨rfl, hb⟩
  replace hs := bStep hs hb
  replace Blg := Blg.mono hb
  clear hb
  go_wp2_with fail
  refine (inf_p1 _).mono ?_
  rintro e w3 ⟨rfl, hb⟩
  replace hs := bStep hs hb
  replace Blg := Blg.mono hb
  clear hb
  go_wp2
  go_ret
  exact ⟨rfl, hs⟩
end Go.Proofs.YtlfnapfnpkhggaaGreat
