/-
  Reference 08: both, Values, Two, RankSum.
-/
import Derived.Test.YtmnipggjjcmjkaaGreatAlkRQ
set_option linter.unusedSimpArgs false
set_option linter.unusedVariables false
namespace Go.Proofs.YtmnipggjjcmjkaaGreat
open Go.RowKit Dg
attribute [local go_sem ↓] Go.wp_at_zero Go.wp_at_succ

theorem RC.one {w : World} {cs : List Value} {x : Rat} (h : RC w cs x) : cs.length = 3 ∧ ∀ u ∈ cs, u.oneCell' = true := by
  obtain ⟨g, a, n, c, A, N, D, rfl, _⟩ := h.cells
  refine ⟨rfl, fun u hu => ?_⟩
  simp only [List.mem_cons, List.mem_nil_iff, or_false] at hu
  rcases hu with rfl | rfl | rfl <;> rfl
theorem rows_flatR {T : TypeId} {w : World} {b o n c : Nat} {l : List Rat} (h : Rows 3 T RC w (.slice (some ⟨b, o, none⟩) n c) l) : ∃ css : List (List Value), css.length = l.length ∧ (∀ cs ∈ css, cs.length = 3) ∧ (∀ (i : Nat) (cs : List Value) (x : Rat), css[i]? = some cs → l[i]? = some x → RC w cs x) ∧
    (∀ u ∈ css.flatten, u.oneCell' = true) ∧ ∀ j u, css.flatten[j]? = some u → w.cell? ((⟨b, o, none⟩ : Addr).add j) = some u := by
  have hall : ∀ i, i < l.length → ∃ cs : List Value, CellsAt w b (o + i * 3) cs ∧ RC w cs (nthQ l i) := fun i hi => by
    obtain ⟨b', o', c', cs, hv, _, hat, hc⟩ := h.get (nthQ_some hi)
    obtain ⟨e, rfl⟩ := sliceE hv
    injection e with e
    injection e with e1 e2
    subst e1 e2
    exact ⟨cs, hat, hc⟩
  obtain ⟨f, hf⟩ := choose_lt' hall
  have hg : ∀ (i : Nat) (cs : List Value), ((List.range l.length).map f)[i]? = some cs → i < l.length ∧ cs = f i := fun i cs hc => by
    rw [List.getElem?_map] at hc
    by_cases hi : i < l.length
    · rw [List.getElem?_range hi] at hc
      simp only [Option.map_some, Option.some.injEq] at hc
      exact ⟨hi, hc.symm⟩
    · rw [List.getElem?_eq_none (by simpa using hi)] at hc
      cases hc
  have h3 : ∀ cs ∈ (List.range l.length).map f, cs.length = 3 := fun cs hcs => by
    obtain ⟨i, hi, rfl⟩ := List.mem_map.1 hcs
    exact (hf i (List.mem_range.1 hi)).2.one.1
  refine ⟨(List.range l.length).map f, by simp, h3, fun i cs x hc hx => ?_, fun u hu => ?_, fun j u hu => ?_⟩
  · obtain ⟨hi, rfl⟩ := hg i cs hc
    rw [nthQ_some hi] at hx
    cases hx
    exact (hf i hi).2
  · obtain ⟨cs, hcs, hu⟩ := List.mem_flatten.1 hu
    obtain ⟨i, hi, rfl⟩ := List.mem_map.1 hcs
    exact (hf i (List.mem_range.1 hi)).2.one.2 u hu
  · have hj : j < l.length * 3 := by
      have h1 := (List.getElem?_eq_some_iff.1 hu).1
      rw [flat_length _ h3] at h1
      simpa using h1
    have hi : j / 3 < l.length := by omega
    have e := flat_get _ h3 (j / 3) (j % 3) (f (j / 3)) (by rw [List.getElem?_map, List.getElem?_range hi]; rfl) (Nat.mod_lt _ (by omega))
    rw [show j / 3 * 3 + j % 3 = j by omega, hu] at e
    have := (hf (j / 3) hi).1 (j % 3) u e.symm
    rw [add_plain]
    rw [show o + j / 3 * 3 + j % 3 = o + j by omega] at this
    exact this
/-- Behind an append of a list. -/
theorem OwnR.pushLR {base : Nat} {T : TypeId} {w w' : World} {l m : List Rat} {css dss : List (List Value)} (h1 : css.length = l.length) (h2 : ∀ cs ∈ css, cs.length = 3) (h3 : ∀ (i : Nat) (cs : List Value) (x : Rat), css[i]? = some cs → l[i]? = some x → RC w cs x)
    (d1 : dss.length = m.length) (d2 : ∀ cs ∈ dss, cs.length = 3) (d3 : ∀ (i : Nat) (cs : List Value) (x : Rat), dss[i]? = some cs → m[i]? = some x → RC w cs x) {v' : Value}
    (hown : w'.ownsRow base T 3 v' (l.length + m.length) (css.flatten ++ dss.flatten)) (hk : KeepD w w') : OwnR base T 3 RC w' v' (l ++ m) := by
  refine ⟨css ++ dss, by simp [h1, d1], ?_, ?_, ?_⟩
  · intro c hc
    rcases List.mem_append.1 hc with h | h
    · exact h2 c h
    · exact d2 c h
  · intro i c y hc hy
    by_cases hi : i < l.length
    · rw [List.getElem?_append_left (by omega)] at hc
      rw [List.getElem?_append_left hi] at hy
      exact RC.kept _ _ _ _ (h3 i c y hc hy) hk
    · rw [List.getElem?_append_right (by omega), h1] at hc
      rw [List.getElem?_append_right (by omega)] at hy
      exact RC.kept _ _ _ _ (d3 _ c y hc hy) hk
  · simpa using hown
theorem OwnR.emptyR {base g : Nat} {T : TypeId} {w : World} (h : Bx w g T #[]) (hb : base ≤ g) : OwnR base T 3 RC w (.slice (some ⟨g, 0, none⟩) 0 0) [] :=
  ⟨[], rfl, by simp, by simp, rfl, .inr ⟨g, 0, #[], rfl, hb, h, Nat.le_refl _, Nat.zero_le _, rfl, rfl⟩⟩
set_option maxRecDepth 100000 in
set_option maxHeartbeats 4000000 in
theorem r8_both {va vb : Value} {la lb : List Rat} (w : World) (ha : Rows 3 36 RC w va la) (hb : Rows 3 36 RC w vb lb) (h1 : 1 ≤ la.length) (h2 : 1 ≤ lb.length) (h3 : la.length + lb.length ≤ 128) :
    Calls Tryz.prog 84 #[va, vb] w (Ret1 (fun w v => Rows 3 36 RC w v (la ++ lb)) w) := by
  obtain ⟨ba, oa, ca, rfl, ha1, ha2, -⟩ := ha.open_ (by omega)
  obtain ⟨bb, ob, cb, rfl, hb1, hb2, -⟩ := hb.open_ (by omega)
  obtain ⟨i0, hi, hz0, hz1, hz2⟩ := info_parts rR_info
  have hs := Below.refl w.heap.size w
  have HA := Lib.hid ha
  have HB := Lib.hid hb
  clear ha hb
  go_enter Tryz.func84, Tryz.ntmps84
  go_wp2_with (at_builtin; refine wpList.stop ?_)
  refine ⟨?_⟩
  refine wpList.abs ?_
  intro w2 hW
  have hbb : Below w.heap.size w w2 := by rw [hW]; exact (Below.refl _ _).alloc (Nat.le_refl _) _
  have Ble : Bx w2 w.heap.size 36 #[] := by rw [hW]; exact (Bx.new0 _ _ _)
  replace hs := bStep hs hbb
  clear hW hbb
  have Opa : OwnR w.heap.size 36 3 RC w2 (.slice (some ⟨w.heap.size, 0, none⟩) 0 0) [] := OwnR.emptyR Ble (Nat.le_refl _)
  clear Ble
  obtain ⟨css, ho1, ho2, ho3, hown0⟩ := Opa
  obtain ⟨dss, d1, d2, d3, d4, d5⟩ := rows_flatR (HA.out.mono RC.kept hs)
  refine wpList_append_lies _ rfl _ _ _ rfl w.heap.size 36 i0 _ 3 56 Tryz.underlying47 hi hz0 hz1 hz2 rfl (by omega) _ _ css.flatten rfl hown0 ⟨ba, oa, none⟩ la.length ca dss.flatten rfl (by rw [flat_length _ d2, d1]) d5 d4 (by omega) ?_ ?_ hs.size _ rfl ?_
  · unfold maxLen; simp only [List.length_nil]; omega
  · simp only [List.length_nil]; omega
  intro g cap w4 hown1 hgrow hat hlt_
  have hk_ := KeepD.owns hown0 hgrow (by decide)
  replace hs := hs.grown hgrow hs.size (fun k hk => (hown0.lt k hk).1)
  have Opa := OwnR.pushLR ho1 ho2 ho3 d1 d2 d3 hown1 hk_
  rw [List.nil_append] at Opa
  clear hown0 hown1 hgrow hat hlt_ hk_ ho1 ho2 ho3 d1 d2 d3 d4 d5 css dss
  simp only [List.length_nil, Nat.zero_add] at Opa ⊢
  generalize hsv : Value.slice (some ⟨g, 0, none⟩) la.length cap = sv at *
  clear hsv
  go_wp2_with (at_builtin; refine wpList.stop ?_)
  refine ⟨?_⟩
  obtain ⟨css, ho1, ho2, ho3, hown0⟩ := Opa
  obtain ⟨dss, d1, d2, d3, d4, d5⟩ := rows_flatR (HB.out.mono RC.kept hs)
  refine wpList_append_lies _ rfl _ _ _ rfl w.heap.size 36 i0 _ 3 56 Tryz.underlying47 hi hz0 hz1 hz2 rfl (by omega) _ _ css.flatten rfl hown0 ⟨bb, ob, none⟩ lb.length cb dss.flatten rfl (by rw [flat_length _ d2, d1]) d5 d4 (by omega) ?_ ?_ hs.size _ rfl ?_
  · unfold maxLen; omega
  · omega
  intro g2 cap2 w5 hown1 hgrow hat hlt_
  have hk_ := KeepD.owns hown0 hgrow (by decide)
  replace hs := hs.grown hgrow hs.size (fun k hk => (hown0.lt k hk).1)
  have Opa := OwnR.pushLR ho1 ho2 ho3 d1 d2 d3 hown1 hk_
  have hR := Opa.rows
  clear Opa hown0 hown1 hgrow hat hlt_ hk_ ho1 ho2 ho3 d1 d2 d3 d4 d5 css dss
  go_wp2
  go_ret
  exact ⟨_, rfl, hR, hs⟩

set_option maxRecDepth 100000 in
set_option maxHeartbeats 4000000 in
theorem al_chV_few {v : Value} {L : List Rat} (w : World) (hl : Rows 3 29 PC w v L) (h : L.length < 1) : Calls Tryz.prog 100 #[v] w (RetV w (.int .i64 4)) := by
  obtain ⟨ao, cap, rfl, hc1, hc2, hc3⟩ := hl.toI.slice
  clear hl
  have hs := Below.refl w.heap.size w
  go_enter Tryz.func100, Tryz.ntmps100
  have q1 : L.length < 1 := (by omega)
  have q1d : ((L.length : Int) < 1) = True := eq_true (by omega)
  go_wp2
  go_ret
  exact ⟨rfl, hs⟩

set_option maxRecDepth 100000 in
set_option maxHeartbeats 4000000 in
theorem al_chV_many {v : Value} {L : List Rat} (w : World) (hl : Rows 3 29 PC w v L) (h : 64 < L.length) : Calls Tryz.prog 100 #[v] w (RetV w (.int .i64 4)) := by
  obtain ⟨ao, cap, rfl, hc1, hc2, hc3⟩ := hl.toI.slice
  clear hl
  have hs := Below.refl w.heap.size w
  go_enter Tryz.func100, Tryz.ntmps100
  have q1 : ¬ (L.length < 1) := (by omega)
  have q1d : ((L.length : Int) < 1) = False := eq_false (by omega)
  have q2 : 64 < L.length := (by omega)
  have q2d : ((64 : Int) < (L.length : Int)) = True := eq_true (by omega)
  go_wp2
  go_ret
  exact ⟨rfl, hs⟩

set_option maxRecDepth 100000 in
set_option maxHeartbeats 4000000 in
theorem al_chV_in {v : Value} {L : List Rat} (w : World) (hl : Rows 3 29 PC w v L) (h : 1 ≤ L.length) (h2 : L.length ≤ 64) : Calls Tryz.prog 100 #[v] w (RetV w (.int .i64 0)) := by
  obtain ⟨ao, cap, rfl, hc1, hc2, hc3⟩ := hl.toI.slice
  clear hl
  have hs := Below.refl w.heap.size w
  go_enter Tryz.func100, Tryz.ntmps100
  have q1 : ¬ (L.length < 1) := (by omega)
  have q1d : ((L.length : Int) < 1) = False := eq_false (by omega)
  have q2 : ¬ (64 < L.length) := (by omega)
  have q2d : ((64 : Int) < (L.length : Int)) = False := eq_false (by omega)
  go_wp2
  go_ret
  exact ⟨rfl, hs⟩

theorem al_chV_all {v : Value} {L : List Rat} (w : World) (hl : Rows 3 29 PC w v L) {e : Int} (he : (if L.length < 1 ∨ 64 < L.length then (4 : Int) else 0) = e) : Calls Tryz.prog 100 #[v] w (RetV w (.int .i64 e)) := by
  subst he
  by_cases h1 : L.length < 1
  · rw [if_pos (.inl h1)]; exact al_chV_few w hl h1
  · by_cases h2 : 64 < L.length
    · rw [if_pos (.inr h2)]; exact al_chV_many w hl h2
    · rw [if_neg (by omega)]; exact al_chV_in w hl (by omega) (by omega)
set_option maxRecDepth 100000 in
set_option maxHeartbeats 4000000 in
theorem r8_chV_few {v : Value} {L : List Rat} (w : World) (hl : Rows 3 36 RC w v L) (h : L.length < 1) : Calls Tryz.prog 30 #[v] w (RetV w (.int .i64 4)) := by
  obtain ⟨ao, cap, rfl, hc1, hc2, hc3⟩ := hl.toI.slice
  clear hl
  have hs := Below.refl w.heap.size w
  go_enter Tryz.func30, Tryz.ntmps30
  have q1 : L.length < 1 := (by omega)
  have q1d : ((L.length : Int) < 1) = True := eq_true (by omega)
  go_wp2
  go_ret
  exact ⟨rfl, hs⟩

set_option maxRecDepth 100000 in
set_option maxHeartbeats 4000000 in
theorem r8_chV_many {v : Value} {L : List Rat} (w : World) (hl : Rows 3 36 RC w v L) (h : 64 < L.length) : Calls Tryz.prog 30 #[v] w (RetV w (.int .i64 4)) := by
  obtain ⟨ao, cap, rfl, hc1, hc2, hc3⟩ := hl.toI.slice
  clear hl
  have hs := Below.refl w.heap.size w
  go_enter Tryz.func30, Tryz.ntmps30
  have q1 : ¬ (L.length < 1) := (by omega)
  have q1d : ((L.length : Int) < 1) = False := eq_false (by omega)
  have q2 : 64 < L.length := (by omega)
  have q2d : ((64 : Int) < (L.length : Int)) = True := eq_true (by omega)
  go_wp2
  go_ret
  exact ⟨rfl, hs⟩

set_option maxRecDepth 100000 in
set_option maxHeartbeats 4000000 in
theorem r8_chV_in {v : Value} {L : List Rat} (w : World) (hl : Rows 3 36 RC w v L) (h : 1 ≤ L.length) (h2 : L.length ≤ 64) : Calls Tryz.prog 30 #[v] w (RetV w (.int .i64 0)) := by
  obtain ⟨ao, cap, rfl, hc1, hc2, hc3⟩ := hl.toI.slice
  clear hl
  have hs := Below.refl w.heap.size w
  go_enter Tryz.func30, Tryz.ntmps30
  have q1 : ¬ (L.length < 1) := (by omega)
  have q1d : ((L.length : Int) < 1) = False := eq_false (by omega)
  have q2 : ¬ (64 < L.length) := (by omega)
  have q2d : ((64 : Int) < (L.length : Int)) = False := eq_false (by omega)
  go_wp2
  go_ret
  exact ⟨rfl, hs⟩

theorem r8_chV_all {v : Value} {L : List Rat} (w : World) (hl : Rows 3 36 RC w v L) {e : Int} (he : (if L.length < 1 ∨ 64 < L.length then (4 : Int) else 0) = e) : Calls Tryz.prog 30 #[v] w (RetV w (.int .i64 e)) := by
  subst he
  by_cases h1 : L.length < 1
  · rw [if_pos (.inl h1)]; exact r8_chV_few w hl h1
  · by_cases h2 : 64 < L.length
    · rw [if_pos (.inr h2)]; exact r8_chV_many w hl h2
    · rw [if_neg (by omega)]; exact r8_chV_in w hl (by omega) (by omega)








end Go.Proofs.YtmnipggjjcmjkaaGreat
