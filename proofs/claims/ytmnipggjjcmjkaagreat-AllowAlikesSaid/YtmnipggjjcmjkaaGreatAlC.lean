/-
  allow: checks of values; slices.Grow, Concat, Clone at fractions.
-/
import Derived.Test.YtmnipggjjcmjkaaGreatAlB
import Derived.Lib.AppendZerosOnto
import Derived.Lib.SliceRun
import Derived.Handy
set_option linter.unusedSimpArgs false
set_option linter.unusedVariables false
namespace Go.Proofs.YtmnipggjjcmjkaaGreat
open Go.RowKit Dg
attribute [local go_sem ↓] Go.wp_at_zero Go.wp_at_succ

set_option maxRecDepth 100000 in
set_option maxHeartbeats 4000000 in
theorem al_checkValues {v : Value} {l : List Rat} (w : World) (hl : Rows 3 29 PC w v l) (h1 : 1 ≤ l.length) (h64 : l.length ≤ 64) : Calls Tryz.prog 100 #[v] w (RetV w (.int .i64 0)) := by
  obtain ⟨ao, c, rfl, hc1, hc2, hc3⟩ := hl.slice
  have hs := Below.refl w.heap.size w
  clear hl
  go_enter Tryz.func100, Tryz.ntmps100
  have q1 : ((l.length : Int) < 1) = False := eq_false (by omega)
  have q2 : ((64 : Int) < (l.length : Int)) = False := eq_false (by omega)
  go_wp2
  go_ret
  exact ⟨rfl, hs⟩
set_option maxRecDepth 100000 in
set_option maxHeartbeats 4000000 in
theorem al_checkTwo {v u : Value} {l m : List Rat} (w : World) (hl : Rows 3 29 PC w v l) (hm : Rows 3 29 PC w u m) (h1 : 1 ≤ l.length) (h2 : 1 ≤ m.length) (h64 : l.length + m.length ≤ 64) : Calls Tryz.prog 78 #[v, u] w (RetV w (.int .i64 0)) := by
  obtain ⟨ao, c, rfl, hc1, hc2, hc3⟩ := hl.slice
  obtain ⟨bo, d, rfl, hd1, hd2, hd3⟩ := hm.slice
  have hs := Below.refl w.heap.size w
  go_enter Tryz.func78, Tryz.ntmps78
  go_wp2_with fail
  refine (al_checkValues w hl h1 (by omega)).mono ?_
  rintro e w1 ⟨rfl, hb⟩
  replace hs := bStep hs hb
  replace hm := hm.mono PC.kept hb
  clear hb hl
  go_wp2_with fail
  refine (al_checkValues w1 hm h2 (by omega)).mono ?_
  rintro e w2 ⟨rfl, hb⟩
  replace hs := bStep hs hb
  clear hb hm
  have q2 : ((64 : Int) < (l.length : Int) + (m.length : Int)) = False := eq_false (by omega)
  go_wp2
  go_ret
  exact ⟨rfl, hs⟩
theorem info_parts' {P : Program} {T : TypeId} {z : Option Value} {s b : Nat} (h : (P.info? T).map (fun i => (i.zero, i.size, i.bytes)) = some (z, s, b)) : ∃ i0, P.info? T = some i0 ∧ i0.zero = z ∧ i0.size = s ∧ i0.bytes = b := by
  cases hi : P.info? T with
  | none => rw [hi] at h; cases h
  | some i => rw [hi] at h; simp at h; exact ⟨i, rfl, h.1, h.2.1, h.2.2⟩
theorem alP_parts : ∃ i0, Tryz.prog.info? 29 = some i0 ∧ i0.zero = some (.agg #[.bool false, .slice none 0 0, .slice none 0 0]) ∧ i0.size = 3 ∧ i0.bytes = 56 := info_parts' alP_info
set_option maxRecDepth 100000 in
set_option maxHeartbeats 4000000 in
theorem al_Grow {n : Nat} (w : World) (h1 : 0 < n) (h2 : n ≤ 1000) : Calls Tryz.prog 131 #[.slice none 0 0, .int .i64 n] w (Ret1 (fun w' v => OwnR w.heap.size 29 3 PC w' v []) w) := by
  obtain ⟨i0, hi, hz, hsz, hby⟩ := alP_parts
  have hold : (Builtin.firstCells i0.size 0 (.slice none 0 0)).run Tryz.prog w.drew = .ok (#[] : Array Value) w.drew := run_firstCells_none w.drew i0.size 0 0 0
  have hrz : ∀ ty, (Builtin.append_ #[46, 3] ty #[.slice none 0 0, .int .i64 n]).run Tryz.prog w = .ok (.slice (some ⟨w.heap.size, 0, none⟩) n (grownCap w n 0 29))
      (w.drew.alloc (.cells (#[] ++ Builtin.zeroCells (Value.agg #[.bool false, .slice none 0 0, .slice none 0 0]).cells n ++ Builtin.zeroCells (Value.agg #[.bool false, .slice none 0 0, .slice none 0 0]).cells (grownCap w n 0 29 - n)) 29)) := fun ty => by
    have h := Lib.run_append_grow_zeros w 46 3 ty 29 i0 _ .i64 .i64 Tryz.underlying46 Tryz.underlying3 hi hz none 0 0 [] hold n h1 (by omega) (by omega) (by omega) (by rw [hby]; omega)
      (by have := growslice_fits (need := 0 + n) (old := 0) (bytes := i0.bytes) (by omega) (by rw [hby]; omega); exact this)
    rw [Nat.zero_add] at h
    exact h
  have hGn : n ≤ grownCap w n 0 29 := grownCap_ge w _ _ _
  have hGm := grownCap_le_maxLen w n 0 29 (by unfold maxLen; omega)
  obtain ⟨G, hG⟩ : ∃ G, G = grownCap w n 0 29 := ⟨_, rfl⟩
  rw [← hG] at hrz hGn hGm
  clear hold hG
  have hG63 : G ≤ 9223372036854775807 := hGm
  go_enter Tryz.func131, Tryz.ntmps131
  go_wp2_with (at_builtin; refine Lib.wpList_append_run _ rfl _ _ _ _ rfl _ _ rfl rfl _ _ (hrz _) ?_)
  all_goals
    go_ret
    refine ⟨_, rfl, ⟨[], rfl, by simp, by simp, rfl, .inr ⟨w.heap.size, G, _, rfl, Nat.le_refl _, heap_alloc_new w.drew _, Nat.zero_le _, hGm, ?_, rfl⟩⟩, Below.alloc (Below.drew (Below.refl _ _)) (Nat.le_refl _) _⟩
    simp only [Array.size_append, size_zeroCells, List.size_toArray, List.length_cons, List.length_nil]
    omega
/-- All cells of a list of fractions, one behind the other. -/
theorem PC.one {w : World} {cs : List Value} {x : Rat} (h : PC w cs x) : cs.length = 3 ∧ ∀ u ∈ cs, u.oneCell' = true := by
  obtain ⟨g, a, n, c, A, N, D, rfl, _⟩ := h.cells
  refine ⟨rfl, fun u hu => ?_⟩
  simp only [List.mem_cons, List.mem_nil_iff, or_false] at hu
  rcases hu with rfl | rfl | rfl <;> rfl
theorem choose_lt' {Q : Nat → List Value → Prop} {n : Nat} (h : ∀ i, i < n → ∃ y, Q i y) : ∃ f : Nat → List Value, ∀ i, i < n → Q i (f i) := by
  refine ⟨fun i => if hi : i < n then Classical.choose (h i hi) else [], fun i hi => ?_⟩
  show Q i (if hi : i < n then Classical.choose (h i hi) else [])
  rw [dif_pos hi]
  exact Classical.choose_spec (h i hi)
theorem rows_flat {T : TypeId} {w : World} {b o n c : Nat} {l : List Rat} (h : Rows 3 T PC w (.slice (some ⟨b, o, none⟩) n c) l) : ∃ css : List (List Value), css.length = l.length ∧ (∀ cs ∈ css, cs.length = 3) ∧ (∀ (i : Nat) (cs : List Value) (x : Rat), css[i]? = some cs → l[i]? = some x → PC w cs x) ∧
    (∀ u ∈ css.flatten, u.oneCell' = true) ∧ ∀ j u, css.flatten[j]? = some u → w.cell? ((⟨b, o, none⟩ : Addr).add j) = some u := by
  have hall : ∀ i, i < l.length → ∃ cs : List Value, CellsAt w b (o + i * 3) cs ∧ PC w cs (nthQ l i) := fun i hi => by
    obtain ⟨b', o', c', cs, hv, _, hat, hc⟩ := h.get (nthQ_some hi)
    obtain ⟨e, rfl⟩ := sliceE hv
    injection e with e
    injection e with e1 e2
    subst e1 e2
    exact ⟨cs, hat, hc⟩
  obtain ⟨f, hf⟩ := choose_lt' hall
  have hg : ∀ (i : Nat) (cs : List Value), ((List.range l.length).map f)[i]? = some cs → i < l.length ∧ cs = f i := fun i cs hc => by
    rw [List.getElem?_map] at hc
    by_cases hi : i < l.length
    · rw [List.getElem?_range hi] at hc
      simp only [Option.map_some, Option.some.injEq] at hc
      exact ⟨hi, hc.symm⟩
    · rw [List.getElem?_eq_none (by simpa using hi)] at hc
      cases hc
  have h3 : ∀ cs ∈ (List.range l.length).map f, cs.length = 3 := fun cs hcs => by
    obtain ⟨i, hi, rfl⟩ := List.mem_map.1 hcs
    exact (hf i (List.mem_range.1 hi)).2.one.1
  refine ⟨(List.range l.length).map f, by simp, h3, fun i cs x hc hx => ?_, fun u hu => ?_, fun j u hu => ?_⟩
  · obtain ⟨hi, rfl⟩ := hg i cs hc
    rw [nthQ_some hi] at hx
    cases hx
    exact (hf i hi).2
  · obtain ⟨cs, hcs, hu⟩ := List.mem_flatten.1 hu
    obtain ⟨i, hi, rfl⟩ := List.mem_map.1 hcs
    exact (hf i (List.mem_range.1 hi)).2.one.2 u hu
  · have hj : j < l.length * 3 := by
      have h1 := (List.getElem?_eq_some_iff.1 hu).1
      rw [flat_length _ h3] at h1
      simpa using h1
    have hi : j / 3 < l.length := by omega
    have e := flat_get _ h3 (j / 3) (j % 3) (f (j / 3)) (by rw [List.getElem?_map, List.getElem?_range hi]; rfl) (Nat.mod_lt _ (by omega))
    rw [show j / 3 * 3 + j % 3 = j by omega, hu] at e
    have := (hf (j / 3) hi).1 (j % 3) u e.symm
    rw [add_plain]
    rw [show o + j / 3 * 3 + j % 3 = o + j by omega] at this
    exact this
/-- Behind an append of a list. -/
theorem OwnR.pushL {base : Nat} {T : TypeId} {w w' : World} {l m : List Rat} {css dss : List (List Value)} (h1 : css.length = l.length) (h2 : ∀ cs ∈ css, cs.length = 3) (h3 : ∀ (i : Nat) (cs : List Value) (x : Rat), css[i]? = some cs → l[i]? = some x → PC w cs x)
    (d1 : dss.length = m.length) (d2 : ∀ cs ∈ dss, cs.length = 3) (d3 : ∀ (i : Nat) (cs : List Value) (x : Rat), dss[i]? = some cs → m[i]? = some x → PC w cs x) {v' : Value}
    (hown : w'.ownsRow base T 3 v' (l.length + m.length) (css.flatten ++ dss.flatten)) (hk : KeepD w w') : OwnR base T 3 PC w' v' (l ++ m) := by
  refine ⟨css ++ dss, by simp [h1, d1], ?_, ?_, ?_⟩
  · intro c hc
    rcases List.mem_append.1 hc with h | h
    · exact h2 c h
    · exact d2 c h
  · intro i c y hc hy
    by_cases hi : i < l.length
    · rw [List.getElem?_append_left (by omega)] at hc
      rw [List.getElem?_append_left hi] at hy
      exact PC.kept _ _ _ _ (h3 i c y hc hy) hk
    · rw [List.getElem?_append_right (by omega), h1] at hc
      rw [List.getElem?_append_right (by omega)] at hy
      exact PC.kept _ _ _ _ (d3 _ c y hc hy) hk
  · simpa using hown
theorem OwnR.base {α : Type} {base base' size : Nat} {T : TypeId} {R : World → List Value → α → Prop} {w : World} {v : Value} {l : List α} (h : OwnR base T size R w v l) (hb : base' ≤ base) : OwnR base' T size R w v l := by
  obtain ⟨css, h1, h2, h3, e1, e2⟩ := h
  refine ⟨css, h1, h2, h3, e1, ?_⟩
  rcases e2 with e2 | ⟨g, cap, cur, rfl, hb', r⟩
  · exact .inl e2
  · exact .inr ⟨g, cap, cur, rfl, Nat.le_trans hb hb', r⟩
/-- The size of the first k of two lists; what they are together. -/
def szc (a b : List Rat) : Nat → Nat
  | 0 => 0
  | 1 => a.length
  | _ => a.length + b.length
def catL (a b : List Rat) : Nat → List Rat
  | 0 => []
  | 1 => a
  | _ => a ++ b

set_option maxRecDepth 100000 in
set_option maxHeartbeats 8000000 in
theorem al_Concat {g : Nat} {va vb : Value} {la lb : List Rat} (w : World) (hB : Bx w g 46 #[va, vb]) (ha : Rows 3 29 PC w va la) (hb : Rows 3 29 PC w vb lb) (h1 : 1 ≤ la.length) (h2 : 1 ≤ lb.length) (h3 : la.length + lb.length ≤ 128) :
    Calls Tryz.prog 81 #[.slice (some ⟨g, 0, none⟩) 2 2] w (Ret1 (fun w v => Rows 3 29 PC w v (la ++ lb)) w) := by
  obtain ⟨ba, oa, ca, rfl, ha1, ha2, -⟩ := ha.open_ (by omega)
  obtain ⟨bb, ob, cb, rfl, hb1, hb2, -⟩ := hb.open_ (by omega)
  obtain ⟨i0, hi, hz0, hz1, hz2⟩ := info_parts alP_info
  have hs := Below.refl w.heap.size w
  have HA := Lib.hid ha
  have HB := Lib.hid hb
  have HX := Lib.hid hB
  clear ha hb hB
  go_enter Tryz.func81, Tryz.ntmps81
  go_wp2
  go_loopw [3, 11] (fun sv iv wq => ∃ k : Nat, k ≤ 2 ∧ iv = .int .i64 k ∧ sv = .int .i64 (szc la lb k) ∧ Below w.heap.size w wq) (fun _ iv _ => 2 - (intOf iv).toNat)
  case atStart => exact ⟨0, by omega, rfl, rfl, hs⟩
  case round =>
    clear hs
    obtain ⟨k, hk, rfl, rfl, hs⟩ := hrel
    have c0 := (HX.out.mono hs).at 0 rfl
    have c1 := (HX.out.mono hs).at 1 rfl
    rcases (show k = 0 ∨ k = 1 ∨ k = 2 by omega) with rfl | rfl | rfl
    · show Code.wp _ _ _ _ _
      simp only [szc]
      have f1 : ((la.length : Int) < 0) = False := eq_false (by omega)
      go_wp2
      go_roundw
      case rel => exact ⟨1, by omega, rfl, rfl, hs⟩
      all_goals first | (simp [intOf]; done) | (simp [intOf]; omega)
    · simp only [szc]
      have f1 : ((la.length : Int) + (lb.length : Int) < 0) = False := eq_false (by omega)
      go_wp2
      go_roundw
      case rel => exact ⟨2, by omega, rfl, rfl, hs⟩
      all_goals first | (simp [intOf]; done) | (simp [intOf]; omega)
    · simp only [szc]
      clear c0 c1
      go_wp2_with fail
      refine (al_Grow (n := la.length + lb.length) wr (by omega) (by omega)).mono ?_
      rintro e w2 ⟨v, rfl, Og, hbb⟩
      replace Opa : OwnR w.heap.size 29 3 PC w2 v [] := Og.base hs.size
      replace hs := bStep hs hbb
      clear hbb Og
      go_wp2
      go_loopw [6, 27] (fun av iv wq => ∃ k : Nat, k ≤ 2 ∧ iv = .int .i64 k ∧ Below w.heap.size w wq ∧ OwnR w.heap.size 29 3 PC wq av (catL la lb k)) (fun _ iv _ => 2 - (intOf iv).toNat)
      case atStart => exact ⟨0, by omega, rfl, hs, Opa⟩
      case round =>
      clear hs Opa
      obtain ⟨k, hk, rfl, hs, Opa⟩ := hrel
      have c0 := (HX.out.mono hs).at 0 rfl
      have c1 := (HX.out.mono hs).at 1 rfl
      rcases (show k = 0 ∨ k = 1 ∨ k = 2 by omega) with rfl | rfl | rfl
      · simp only [catL] at Opa
        go_wp2_with (at_builtin; refine wpList.stop ?_)
        refine ⟨?_⟩
        clear c0 c1
        obtain ⟨css, ho1, ho2, ho3, hown0⟩ := Opa
        obtain ⟨dss, d1, d2, d3, d4, d5⟩ := rows_flat (HA.out.mono PC.kept hs)
        refine wpList_append_lies _ rfl _ _ _ rfl w.heap.size 29 i0 _ 3 56 Tryz.underlying46 hi hz0 hz1 hz2 rfl (by omega) _ _ css.flatten rfl hown0 ⟨ba, oa, none⟩ la.length ca dss.flatten rfl (by rw [flat_length _ d2, d1]) d5 d4 (by omega) ?_ ?_ hs.size _ rfl ?_
        · unfold maxLen; (try simp only [List.length_nil]); omega
        · (try simp only [List.length_nil]); omega
        intro g cap w4 hown1 hgrow hat hlt_
        have hk_ := KeepD.owns hown0 hgrow (by decide)
        replace hs := hs.grown hgrow hs.size (fun k hk => (hown0.lt k hk).1)
        have Opa := OwnR.pushL ho1 ho2 ho3 d1 d2 d3 hown1 hk_
        clear hk_ ho1 ho2 ho3 hown0 hown1 hgrow hat hlt_ d1 d2 d3 d4 d5
        go_wp2
        go_roundw
        case rel => exact ⟨1, by omega, rfl, hs, (by simp only [List.length_nil, Nat.zero_add, List.nil_append] at Opa; exact Opa)⟩
        all_goals first | (simp [intOf]; done) | (simp [intOf]; omega)
      · simp only [catL] at Opa
        go_wp2_with (at_builtin; refine wpList.stop ?_)
        refine ⟨?_⟩
        clear c0 c1
        obtain ⟨css, ho1, ho2, ho3, hown0⟩ := Opa
        obtain ⟨dss, d1, d2, d3, d4, d5⟩ := rows_flat (HB.out.mono PC.kept hs)
        refine wpList_append_lies _ rfl _ _ _ rfl w.heap.size 29 i0 _ 3 56 Tryz.underlying46 hi hz0 hz1 hz2 rfl (by omega) _ _ css.flatten rfl hown0 ⟨bb, ob, none⟩ lb.length cb dss.flatten rfl (by rw [flat_length _ d2, d1]) d5 d4 (by omega) ?_ ?_ hs.size _ rfl ?_
        · unfold maxLen; omega
        · omega
        intro g cap w4 hown1 hgrow hat hlt_
        have hk_ := KeepD.owns hown0 hgrow (by decide)
        replace hs := hs.grown hgrow hs.size (fun k hk => (hown0.lt k hk).1)
        have Opa := OwnR.pushL ho1 ho2 ho3 d1 d2 d3 hown1 hk_
        clear hk_ ho1 ho2 ho3 hown0 hown1 hgrow hat hlt_ d1 d2 d3 d4 d5
        go_wp2
        go_roundw
        case rel => exact ⟨2, by omega, rfl, hs, Opa⟩
        all_goals first | (simp [intOf]; done) | (simp [intOf]; omega)
      · simp only [catL] at Opa
        clear c0 c1
        have hR := Lib.hid Opa.rows
        clear Opa
        go_wp2
        go_ret
        exact ⟨_, rfl, hR.out, hs⟩
end Go.Proofs.YtmnipggjjcmjkaaGreat
