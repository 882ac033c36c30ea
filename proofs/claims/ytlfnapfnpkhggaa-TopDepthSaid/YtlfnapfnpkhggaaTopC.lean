/-
  Top: TopDepth, all ways; its arguments, read.
-/
import Derived.Test.YtlfnapfnpkhggaaTopB
import Derived.Test.YtlfnapfnpkhggaaPkRead
import Derived.OpenShut
set_option linter.unusedSimpArgs false
set_option linter.unusedVariables false
namespace Go.Proofs.Ytlfnapfnpkhggaa
open Go.RowKit Dg Go.ChangeShapes Go.WideShapes Go.Deep

set_option maxRecDepth 100000 in
set_option maxHeartbeats 4000000 in
theorem top_Depth_few (v v1 : Value) (l : List I3) (b : Int) (I : List Int) (w : World) (hl : RowsI 3 I3C w v l) (hi1 : RowsI 1 U8C w v1 I) (h : l.length < 2) :
    Calls Try.prog 5 #[v, .int .u8 b, v1] w (RetV w (.bool true)) := by
  obtain ⟨ao, cap, rfl, hc1, hc2, hc3⟩ := hl.slice
  obtain ⟨ai, ci, rfl, hd1, hd2, hd3⟩ := hi1.slice
  have hs := Below.refl w.heap.size w
  clear hl hi1
  go_enter Try.func5, Try.ntmps5
  have q1 : l.length < 2 := (by omega)
  have q1d : ((l.length : Int) < 2) = True := eq_true (by omega)
  go_wp2_with fail
  with_reducible refine (top_awake _).mono ?_
  rintro e w1 ⟨rfl, hb⟩
  replace hs := bStep hs hb
  clear hb
  go_wp2
  go_ret
  exact ⟨rfl, hs⟩

set_option maxRecDepth 100000 in
set_option maxHeartbeats 4000000 in
theorem top_Depth_many (v v1 : Value) (l : List I3) (b : Int) (I : List Int) (w : World) (hl : RowsI 3 I3C w v l) (hi1 : RowsI 1 U8C w v1 I) (h : 8 < l.length) :
    Calls Try.prog 5 #[v, .int .u8 b, v1] w (RetV w (.bool true)) := by
  obtain ⟨ao, cap, rfl, hc1, hc2, hc3⟩ := hl.slice
  obtain ⟨ai, ci, rfl, hd1, hd2, hd3⟩ := hi1.slice
  have hs := Below.refl w.heap.size w
  clear hl hi1
  go_enter Try.func5, Try.ntmps5
  have q1 : ¬ (l.length < 2) := (by omega)
  have q1d : ((l.length : Int) < 2) = False := eq_false (by omega)
  have q2 : 8 < l.length := (by omega)
  have q2d : ((8 : Int) < (l.length : Int)) = True := eq_true (by omega)
  go_wp2_with fail
  with_reducible refine (top_awake _).mono ?_
  rintro e w1 ⟨rfl, hb⟩
  replace hs := bStep hs hb
  clear hb
  go_wp2
  go_ret
  exact ⟨rfl, hs⟩

theorem top_Depth_all (v v1 : Value) (l : List I3) (b : Int) (I : List Int) (w : World) (hl : RowsI 3 I3C w v l) (hi1 : RowsI 1 U8C w v1 I) (hi8 : ∀ x ∈ l, -128 ≤ x.1 ∧ x.1 ≤ 127 ∧ -128 ≤ x.2.1 ∧ x.2.1 ≤ 127 ∧ -128 ≤ x.2.2 ∧ x.2.2 ≤ 127) (hI : ∀ x ∈ I, 0 ≤ x ∧ x ≤ 255) (hb : 0 ≤ b ∧ b ≤ 255) :
    Calls Try.prog 5 #[v, .int .u8 b, v1] w (RetV w (.bool true)) := by
  by_cases h2 : l.length < 2
  · exact top_Depth_few v v1 l b I w hl hi1 h2
  · by_cases h8 : 8 < l.length
    · exact top_Depth_many v v1 l b I w hl hi1 h8
    · obtain ⟨L, hLL⟩ : ∃ L, L = l.map plyF := ⟨_, rfl⟩
      have hLl : L.length = l.length := by rw [hLL, List.length_map]
      have hok : ∀ x ∈ L, PlyOk x := fun x hx => by
        rw [hLL] at hx
        obtain ⟨y, hy, rfl⟩ := List.mem_map.1 hx
        have := hi8 y hy
        exact plyF_ok y (by omega) (by omega)
      obtain ⟨m, hm⟩ : ∃ m : Int, m = 1 + b := ⟨_, rfl⟩
      obtain ⟨s, hs⟩ : ∃ s : Rat, (m : Rat) = s := ⟨_, rfl⟩
      have ss : SzQ 1 s := hs ▸ szQ_int (by omega)
      have s0 : 0 < s := by rw [← hs]; exact_mod_cast (show (0 : Int) < m by omega)
      have hX : (echoQ (lyL L I s L.length) ((lyL L I s L.length).length - 1)).length = L.length - 1 := by rw [echoQ_length, lyL_len]
      have ht := thk_bd hok L.length (Nat.le_refl _)
      refine top_Depth_ok v v1 l b I w hl hi1 (by omega) (by omega) hi8 hI hb.1 hb.2 L hLL hLl hok s (hm ▸ hs) ss s0 _ rfl (by omega) (by omega) (fun i hi => ?_) (echo_szs (by omega) (by rw [lyL_len]; omega) (lyL_sz hok hI ss) (lyL_pos hok hI s0) rfl) _ rfl ht.1 (by omega)
      rw [lyL_len]
      exact (ta_echo (by omega)).1

section
variable {H : Type} {enc : TypeId × Value → H} {W : World} {base b0 : Nat} {spare : Nat → Bool} {held : Bool} {r : Reach}
instance : Inhabited I3 := ⟨(0, 0, 0)⟩
theorem wf_u8a {n : Int} (h : (Lit.int .u8 n).wf = true) : 0 ≤ n ∧ n ≤ 255 := by
  simpa [Lit.wf, IntKind.min, IntKind.max, IntKind.signed, IntKind.bits] using h
theorem wf_i8a {n : Int} (h : (Lit.int .i8 n).wf = true) : -128 ≤ n ∧ n ≤ 127 := by
  simpa [Lit.wf, IntKind.min, IntKind.max, IntKind.signed, IntKind.bits] using h
set_option maxRecDepth 100000 in
theorem trod_i3 {n : Nat} {cs : List Value} {x : DataW H × List MemPlace} (h : DataW.trod enc Try.prog W base spare held n 111 cs = some x) : ∃ y : I3, I3C W cs y ∧ (-128 ≤ y.1 ∧ y.1 ≤ 127 ∧ -128 ≤ y.2.1 ∧ y.2.1 ≤ 127 ∧ -128 ≤ y.2.2 ∧ y.2.2 ≤ 127) := by
  obtain ⟨xs, m, _, _, hsz, hl, hx⟩ := DataW.trod_array Try.underlying111 h
  rw [show Try.prog.cellsOf 111 = 3 from by kernel_rfl] at hsz
  have h0 := hx 0 (by omega)
  have h1 := hx 1 (by omega)
  have h2 := hx 2 (by omega)
  rw [show Try.prog.cellsOf 110 = 1 from by kernel_rfl] at h0 h1 h2
  rw [List.getElem?_eq_getElem (by omega)] at h0 h1 h2
  obtain ⟨a, e0, _, w0⟩ := DataW.trod_int Try.underlying110 h0
  obtain ⟨b, e1, _, w1⟩ := DataW.trod_int Try.underlying110 h1
  obtain ⟨c, e2, _, w2⟩ := DataW.trod_int Try.underlying110 h2
  match cs, hsz with
  | [c0, c1, c2], _ =>
    simp at e0 e1 e2
    subst e0 e1 e2
    have v0 := wf_i8a w0
    have v1 := wf_i8a w1
    have v2 := wf_i8a w2
    exact ⟨(a, b, c), rfl, v0.1, v0.2, v1.1, v1.2, v2.1, v2.2⟩
theorem trod_u8 {n : Nat} {cs : List Value} {x : DataW H × List MemPlace} (h : DataW.trod enc Try.prog W base spare held n 5 cs = some x) : ∃ y : Int, U8C W cs y ∧ (0 ≤ y ∧ y ≤ 255) := by
  obtain ⟨a, e0, _, w0⟩ := DataW.trod_int Try.underlying5 h
  exact ⟨a, e0, wf_u8a w0⟩
end
end Go.Proofs.Ytlfnapfnpkhggaa
