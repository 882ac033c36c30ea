/-
  What scan.Ring's walk asks: the waves in blocks of 72 cells.
-/
import Derived.Test.YtkfekkhhfpkfaaaGreatRing0G
import Derived.Test.YtkfekkhhfpkfaaaGreatPkOwnG
import Derived.Test.YtkfekkhhfpkfaaaGreatPkHeld3G
set_option linter.unusedSimpArgs false
set_option linter.unusedVariables false
namespace Go.Proofs.YtkfekkhhfpkfaaaGreat
open Go.RowKit Dg
attribute [local go_sem ↓] Go.wp_at_zero Go.wp_at_succ
theorem nxQ_len (L : List Rat) (t i : Nat) : (nxQ L t i).length = 24 := w24_length _ _
theorem nowQ_len (L : List Rat) (t : Nat) : (nowQ L t).length = 24 := w24_length _ _
theorem nowQ_at1 {L : List Rat} {t i : Nat} (h : i < 12) : nthQ (nowQ L t) i = (rgW L t).1 i := by unfold nowQ; rw [w24_nth _ _ (by omega), if_pos h]
theorem nowQ_at2 {L : List Rat} {t i : Nat} (h : i < 12) : nthQ (nowQ L t) (12 + i) = (rgW L t).2 i := by unfold nowQ; rw [w24_nth _ _ (by omega), if_neg (by omega), Nat.add_sub_cancel_left]
def Ret4 (R1 R2 R3 R4 : World → Value → Prop) (w : World) (e : Ending) (w' : World) : Prop := ∃ v1 v2 v3 v4, e = .returned (.tuple #[v1, v2, v3, v4]) ∧ R1 w' v1 ∧ R2 w' v2 ∧ R3 w' v3 ∧ R4 w' v4 ∧ Below w.heap.size w w'
theorem VecR.putW {α : Type} {T : TypeId} {R : World → List Value → α → Prop} {w w' : World} {g : Nat} {l : List α} {k o0 o1 o2 : Nat} {a b c : Value} {x : α} (h : VecR T 3 R w g l) (hR : Kept R) (hi : k < l.length) (hT : T ≠ 108 ∧ T ≠ 62) (e0 : o0 = k * 3) (e1 : o1 = k * 3 + 1) (e2 : o2 = k * 3 + 2) (hx : R w [a, b, c] x)
    (hG : Gr [] (((w.setCell ⟨g, o0, none⟩ a).setCell ⟨g, o1, none⟩ b).setCell ⟨g, o2, none⟩ c) w') : VecR T 3 R w' g (l.set k x) := by
  subst e0 e1 e2
  exact h.put3 hR hi hT hx hG
theorem vec_zero {w : World} {g : Nat} {T : TypeId} (h : Bx w g T Tryz.zeroCells128) : VecR T 3 PC w g (List.replicate 24 (0 : Rat)) := by
  have e : Tryz.zeroCells128 = (List.replicate 24 [Value.bool false, .slice none 0 0, .slice none 0 0]).flatten.toArray := by kernel_rfl
  rw [e] at h
  refine ⟨List.replicate 24 [.bool false, .slice none 0 0, .slice none 0 0], by simp, fun cs hc => by rw [(List.mem_replicate.1 hc).2]; rfl, fun i cs x hc hx => ?_, h⟩
  have h1 := (List.mem_replicate.1 (List.mem_of_getElem? hc)).2
  have h2 := (List.mem_replicate.1 (List.mem_of_getElem? hx)).2
  subst h1 h2
  exact ⟨_, _, _, rfl, PV.zero _⟩
theorem sc_whole1 (w : World) : Calls Tryz.prog 52 #[.int .i64 1] w (RetP w 1) := sc_whole 1 w (by decide) (by decide)
theorem sc_thrownZ {L : List Rat} {i : Nat} (hr : ∀ i, i + 1 < L.length → SzQ 6 (rgR L i) ∧ nthQ L (i + 1) + nthQ L i ≠ 0) {w : World} {vx vy : Value} (hx : PV w vx (nthQ L i)) (hy : PV w vy (nthQ L (i + 1))) (sx : SzQ 1 (nthQ L i)) (sy : SzQ 1 (nthQ L (i + 1))) (hi : i + 1 < L.length) : Calls Tryz.prog 53 #[vx, vy] w (RetP w (rgR L i)) :=
  sc_thrown _ _ _ _ _ hx hy sx.fit sy.fit (SzQ.fit (sy.sub sx)) (SzQ.fit (sy.add sx)) (hr i hi).2
theorem ring_len {L : List Rat} (h2 : 2 ≤ L.length) (h5 : L.length ≤ 5) : ∃ n m : Nat, (L.length ≤ n + 2 ∧ n + 2 ≤ L.length) ∧ (m ≤ n + 1 ∧ n + 1 ≤ m) ∧ IntKind.i64.wrap ((L.length : Int) - 2) = (n : Int) ∧ IntKind.i64.wrap ((n : Int) + 1) = (m : Int) :=
  ⟨L.length - 2, L.length - 1, ⟨by omega, by omega⟩, ⟨by omega, by omega⟩, by rw [IntWalk.i64_in _ (by omega)]; omega, by rw [IntWalk.i64_in _ (by omega)]; omega⟩
theorem rgBks_len (L : List Rat) (k : Nat) : (rgBks L k).length = k := by simp [rgBks]
theorem rgThs_len (L : List Rat) (k : Nat) : (rgThs L k).length = k := by simp [rgThs]
theorem wav_size : (Tryz.prog.info? 128).map (·.size) = some 72 := by kernel_rfl
theorem Gr.setRow {a w : World} {g : Nat} (h : Gr [g] a w) {cs : Array Value} : Gr [g] a (w.setRow g cs) :=
  ⟨h.os, h.tape, h.output, by have := h.size; simpa using this, fun k hk hn => (setRow_other w g k cs (fun e => hn (by rw [e]; exact .head _))).trans (h.block k hk hn)⟩
theorem oneRow {w : World} {css : List (List Value)} {l : List Rat} (h1 : css.length = l.length) (h3 : ∀ (i : Nat) (cs : List Value) (x : Rat), css[i]? = some cs → l[i]? = some x → PC w cs x) : css.flatten.toArray.all (·.oneCell') = true := by
  rw [Array.all_eq_true_iff_forall_mem]
  intro v hv
  obtain ⟨cs, hcs, hv⟩ := List.mem_flatten.1 (by simpa using hv)
  obtain ⟨i, hi, e⟩ := List.getElem_of_mem hcs
  have hl : i < l.length := by omega
  obtain ⟨s, a, n, c, A, N, D, rfl, _⟩ := (h3 i cs _ (by rw [List.getElem?_eq_getElem hi, e]) (nthQ_some hl)).cells
  simp only [List.mem_cons, List.mem_nil_iff, or_false] at hv
  rcases hv with rfl | rfl | rfl <;> rfl
def Css (css : List (List Value)) (l : List Rat) (w : World) : Prop := css.length = l.length ∧ (∀ cs ∈ css, cs.length = 3) ∧ ∀ (i : Nat) (cs : List Value) (x : Rat), css[i]? = some cs → l[i]? = some x → PC w cs x
theorem Css.keep {css : List (List Value)} {l : List Rat} {w w' : World} (h : Css css l w) (hk : KeepD w w') : Css css l w' := ⟨h.1, h.2.1, fun i cs x hc hx => PC.kept _ _ _ _ (h.2.2 i cs x hc hx) hk⟩
theorem cssJ {css : List (List Value)} (l : List Rat) (w w' : World) (h : Css css l w) (hb : Below w.heap.size w w') : Css css l w' := h.keep (.of_below hb)
theorem Css.size {css : List (List Value)} {l : List Rat} {w : World} (h : Css css l w) (hl : l.length = 24) : css.flatten.toArray.size = 72 := by
  rw [List.size_toArray, flat_length css h.2.1, h.1, hl]
theorem VecR.css {w : World} {T : TypeId} {g : Nat} {l : List Rat} (h : VecR T 3 PC w g l) : ∃ css, Css css l w ∧ Bx w g T css.flatten.toArray := by
  obtain ⟨css, h1, h2, h3, h4⟩ := h
  exact ⟨css, ⟨h1, h2, h3⟩, h4⟩
theorem VecR.copied {w w' : World} {T : TypeId} {g : Nat} {l : List Rat} {css : List (List Value)} {old : Array Value} (h : Css css l w) (hB : Bx w g T old) (hk : KeepD w w') (hw : w' = w.setRow g css.flatten.toArray) : VecR T 3 PC w' g l := by
  subst hw
  obtain ⟨h1, h2, h3⟩ := h.keep hk
  exact ⟨css, h1, h2, h3, setRow_heap w g old _ T (0, 0) hB⟩
theorem wpList.stopW {P : Program} {ops : Array Oper} {Q : Exit → Act → World → Prop} {l : List Oper} {a : Act} {w : World} {x : Operand} {d : Option Tmp} {ty : TypeId} {pos : String} {af : Array Edge} {gd : Option (Nat × Bool)} (h : Stopped (wpList P ops Q (⟨d, .load 128 x, ty, pos, af, gd⟩ :: l) a w)) : wpList P ops Q (⟨d, .load 128 x, ty, pos, af, gd⟩ :: l) a w := h.out
theorem wpList.stopI {P : Program} {ops : Array Oper} {Q : Exit → Act → World → Prop} {l : List Oper} {a : Act} {w : World} {x y : Operand} {d : Option Tmp} {ty : TypeId} {pos : String} {af : Array Edge} {gd : Option (Nat × Bool)} (h : Stopped (wpList P ops Q (⟨d, .index 128 x y, ty, pos, af, gd⟩ :: l) a w)) : wpList P ops Q (⟨d, .index 128 x y, ty, pos, af, gd⟩ :: l) a w := h.out
def sdF (s : Wv) (k : Nat) : Nat → Rat := if k = 0 then s.1 else s.2
def sdL (s : Wv) (k : Nat) : List Rat := (List.range 12).map (sdF s k)
def rgI2 (L : List Rat) (s : Wv) (i : Nat) : Nat → Rat
  | 0 => rgIn L s i
  | k + 1 => rgI2 L s i k + sdF s k i * sdF s k i / nthQ L (i + k)
theorem rgI2_zero (L : List Rat) (s : Wv) (i : Nat) : rgIn L s i = rgI2 L s i 0 := rfl
theorem rgIn_zero (L : List Rat) (s : Wv) : (0 : Rat) = rgIn L s 0 := rfl
theorem rgI2_two (L : List Rat) (s : Wv) (i : Nat) : rgI2 L s i 2 = rgIn L s (i + 1) := rfl
theorem run_side (cs : Array Value) (k : Nat) (hk : k < 2) (w : World) : (Instr.index 128 (.agg cs) (.int .i64 (k : Int))).run Tryz.prog w = .ok (.agg (cs.extract (k * 36) (k * 36 + 36))) w := by
  have hs : (Tryz.prog.info? 126).map (·.size) = some 36 := by kernel_rfl
  have hagg : (isAgg 126).run Tryz.prog w = .ok true w := by
    unfold isAgg
    rw [Sem.run_bind, run_underlying Tryz.underlying126 w]
    rfl
  obtain ⟨i, hi, hsz⟩ : ∃ i, Tryz.prog.info? 126 = some i ∧ i.size = 36 := by
    cases hq : Tryz.prog.info? 126 with
    | none => simp [hq] at hs
    | some i => exact ⟨i, rfl, by simpa [hq] using hs⟩
  unfold Instr.index
  simp [asIntOf, Sem.run_bind, run_underlying Tryz.underlying128 w, part, hagg, sizeOf, typeInfo, hi, hsz]
  intro h
  omega
theorem wpList_side {ops : Array Oper} {rest : List Oper} {o : Oper} {a : Act} {w : World} {Q : Exit → Act → World → Prop} (hgd : o.guard = none) (x y : Operand) (ho : o.op = .index 128 x y) (cs : Array Value) (hx : a.eval x = .agg cs) (k : Nat) (hy : a.eval y = .int .i64 (k : Int)) (hk : k < 2) (sd : Array Value) (hsd : Hid (sd = cs.extract (k * 36) (k * 36 + 36)))
    (h : wpList Tryz.prog ops Q rest (a.put o.dst (.agg sd)) w) : wpList Tryz.prog ops Q (o :: rest) a w :=
  wpList_plain hgd fun _ hK => by
    unfold Oper.wp execOp
    simp only [ho, hx, hy, Sem.run_bind, Sem.run_pure, Result.andThen_ok, run_side cs k hk w, ← hsd.out]
    exact hK _ _ h
theorem wpList_store_rowL {P : Program} {ops : Array Oper} {rest : List Oper} {o : Oper} {a : Act} {w : World} {Q : Exit → Act → World → Prop} (hgd : o.guard = none) (ty : TypeId) (x y : Operand) (ho : o.op = .store ty x y)
    (g : Nat) (cells : Array Value) (hx : a.eval x = .pointer (some ⟨g, 0, none⟩)) (hy : a.eval y = .agg cells)
    (t : TypeId) (old : Array Value) (hg : w.heap[g]? = some (.cells old t (0, 0))) (hi : (P.info? ty).map (·.size) = some cells.size)
    (hold : old.size = cells.size) (h1 : cells.all (·.oneCell') = true)
    (h : ∀ w', w' = w.setRow g cells → wpList P ops Q rest (a.put o.dst undef) w') : wpList P ops Q (o :: rest) a w :=
  wpList_store_row hgd ty x y ho g cells hx hy t old hg hi hold h1 (h _ rfl)
theorem wpList.stopS {P : Program} {ops : Array Oper} {Q : Exit → Act → World → Prop} {l : List Oper} {a : Act} {w : World} {x y : Operand} {d : Option Tmp} {ty : TypeId} {pos : String} {af : Array Edge} {gd : Option (Nat × Bool)} (h : Stopped (wpList P ops Q (⟨d, .store 126 x y, ty, pos, af, gd⟩ :: l) a w)) : wpList P ops Q (⟨d, .store 126 x y, ty, pos, af, gd⟩ :: l) a w := h.out
theorem side_size {cs : Array Value} (h : cs.size = 72) {k : Nat} (hk : k < 2) : (cs.extract (k * 36) (k * 36 + 36)).size = 36 := by rw [Array.size_extract, h]; omega
theorem side_info {n : Nat} (h : n = 36) : (Tryz.prog.info? 126).map (·.size) = some n := by subst h; kernel_rfl
theorem side_one {cs : Array Value} (h : cs.all (·.oneCell') = true) (i j : Nat) : (cs.extract i j).all (·.oneCell') = true := by
  rw [Array.all_eq_true_iff_forall_mem] at *
  intro v hv
  have hv' : v ∈ (cs.extract i j).toList := Array.mem_toList_iff.2 hv
  rw [Array.toList_extract, List.extract_eq_take_drop] at hv'
  exact h v (Array.mem_toList_iff.1 (List.mem_of_mem_drop (List.mem_of_mem_take hv')))
theorem Gr.setNew {a w : World} {gs : List Nat} {g : Nat} (h : Gr gs a w) (hg : a.heap.size ≤ g) {cs : Array Value} : Gr gs a (w.setRow g cs) :=
  ⟨h.os, h.tape, h.output, by have := h.size; simpa using this, fun k hk hn => (setRow_other w g k cs (by omega)).trans (h.block k hk hn)⟩
theorem ring_e33 (L : List Rat) (s : Wv) (i k j : Nat) (h : j = i + k) : rgI2 L s i k + sdF s k i * sdF s k i / nthQ L j = rgI2 L s i (k + 1) := by subst h; rfl
theorem ring_j (i k : Nat) (hi : i ≤ 5) (hk : k ≤ 2) : ∃ j : Nat, (j ≤ i + k ∧ i + k ≤ j) ∧ IntKind.i64.wrap ((i : Int) + (k : Int)) = (j : Int) := ⟨i + k, ⟨Nat.le_refl _, Nat.le_refl _⟩, by rw [IntWalk.i64_in _ (by omega)]; omega⟩
theorem ownJ {α : Type} {base : Nat} {T : TypeId} {size : Nat} {R : World → List Value → α → Prop} (hR : Kept R) {l : List α} (v : Value) (w w' : World) (h : OwnR base T size R w v l) (hb : Below w.heap.size w w') : OwnR base T size R w' v l := h.mono hR hb
theorem ring_in {L : List Rat} {K i : Nat} (h : L.length - 1 = i) : rgIn L (rgW L K) i * nthQ L 0 = rgIns L K := by subst h; rfl
theorem sdL_len (s : Wv) (k : Nat) : (sdL s k).length = 12 := by simp [sdL]
theorem sdL_at {s : Wv} {k i : Nat} (h : i < 12) : nthQ (sdL s k) i = sdF s k i := by
  unfold nthQ sdL
  rw [List.getD_eq_getElem?_getD, List.getElem?_map, List.getElem?_range h]; rfl
theorem sdF_sz {L : List Rat} {t : Nat} (h : ∀ i, SzQ 1072 ((rgW L t).1 i) ∧ SzQ 1072 ((rgW L t).2 i)) (k i : Nat) : SzQ 1072 (sdF (rgW L t) k i) := by
  unfold sdF
  split
  · exact (h i).1
  · exact (h i).2
theorem rgI2_sz {L : List Rat} (hz : ∀ i, i < L.length → SzQ 1 (nthQ L i)) (hp : ∀ i, i < L.length → 0 < nthQ L i) {t : Nat} (ht : t ≤ 6) (h5 : L.length ≤ 5) {i k : Nat} (hk : k ≤ 2) (hi : i + 1 < L.length) : SzQ 30000 (rgI2 L (rgW L t) i k) := by
  have h0 := rgIn_sz hz hp ht i (by omega)
  have hs := sdF_sz (fun i => rgW_sz hz hp ht i)
  have n1 : ∀ j, j < L.length → nthQ L j ≠ 0 := fun j hj e => by have := hp j hj; rw [e] at this; exact Rat.lt_irrefl this
  match k, hk with
  | 0, _ => exact h0.mono (by omega)
  | 1, _ => exact (h0.add (((hs 0 i).mul (hs 0 i)).div (hz i (by omega)) (n1 i (by omega)))).mono (by omega)
  | 2, _ => exact ((h0.add (((hs 0 i).mul (hs 0 i)).div (hz i (by omega)) (n1 i (by omega)))).add (((hs 1 i).mul (hs 1 i)).div (hz (i + 1) (by omega)) (n1 (i + 1) (by omega)))).mono (by omega)
theorem side_vec {w : World} {T : TypeId} {g k : Nat} {L : List Rat} {t : Nat} {css : List (List Value)} (h : Css css (nowQ L t) w) (hk : k < 2) (hB : Bx w g T (css.flatten.toArray.extract (k * 36) (k * 36 + 36))) : VecR T 3 PC w g (sdL (rgW L t) k) := by
  obtain ⟨h1, h2, h3⟩ := h
  rw [nowQ_len] at h1
  refine ⟨(css.drop (k * 12)).take 12, by rw [List.length_take, List.length_drop, sdL_len]; omega, fun cs hc => h2 _ (List.mem_of_mem_drop (List.mem_of_mem_take hc)), fun i cs x hc hx => ?_, ?_⟩
  · have hi : i < 12 := by have := (List.getElem?_eq_some_iff.1 hx).1; rwa [sdL_len] at this
    rw [List.getElem?_take, if_pos hi, List.getElem?_drop] at hc
    have e1 := nthQ_some (L := sdL (rgW L t) k) (i := i) (by rw [sdL_len]; exact hi)
    rw [hx, sdL_at hi] at e1
    injection e1 with e1
    have e2 := nthQ_some (L := nowQ L t) (i := k * 12 + i) (by rw [nowQ_len]; omega)
    have e3 : nthQ (nowQ L t) (k * 12 + i) = sdF (rgW L t) k i := by
      unfold sdF
      rcases (show k = 0 ∨ k = 1 by omega) with rfl | rfl
      · rw [Nat.zero_mul, Nat.zero_add, nowQ_at1 hi, if_pos rfl]
      · rw [Nat.one_mul, nowQ_at2 hi, if_neg (by omega)]
    rw [e1, ← e3]
    exact h3 _ _ _ hc e2
  · have hf := flat_length css h2
    have e : css.flatten.toArray.extract (k * 36) (k * 36 + 36) = ((css.drop (k * 12)).take 12).flatten.toArray := by
      apply Array.toList_inj.1
      rw [Array.toList_extract, List.toList_toArray, List.toList_toArray, List.extract_eq_take_drop, Nat.add_sub_cancel_left]
      have e1 : css.flatten = (css.take (k * 12)).flatten ++ (css.drop (k * 12)).flatten := by rw [← List.flatten_append, List.take_append_drop]
      have l1 : (css.take (k * 12)).flatten.length = k * 36 := by rw [flat_length (size := 3) _ (fun cs hc => h2 _ (List.mem_of_mem_take hc)), List.length_take]; omega
      have e2 : (css.drop (k * 12)).flatten = ((css.drop (k * 12)).take 12).flatten ++ ((css.drop (k * 12)).drop 12).flatten := by rw [← List.flatten_append, List.take_append_drop]
      have l2 : ((css.drop (k * 12)).take 12).flatten.length = 36 := by rw [flat_length (size := 3) _ (fun cs hc => h2 _ (List.mem_of_mem_drop (List.mem_of_mem_take hc))), List.length_take, List.length_drop]; omega
      rw [e1, ← l1, List.drop_left, e2, ← l2, List.take_left]
    rw [← e]; exact hB
theorem nxQ_onlyI {L : List Rat} {t i : Nat} (e : i = 0) (h2 : L.length = 2) : nxQ L t i = nxQ L t (i + 1) := by subst e; exact nxQ_only h2
theorem nxQ_firstI {L : List Rat} {t i : Nat} (e : i = 0) (h2 : 2 < L.length) (h5 : L.length ≤ 5) : (nxQ L t i).set (i + 1) (trQ L (rgW L t) i) = nxQ L t (i + 1) := by subst e; exact nxQ_first h2 (by omega)
theorem bk_first {L : List Rat} {t i : Nat} (e : i = 0) : rgBks L (t + min i 1) ++ [tlQ L (rgW L t) i] = rgBks L (t + min (i + 1) 1) := by
  subst e; exact (rgBks_succ L t).symm
theorem th_last {L : List Rat} {t i n m : Nat} (hn : L.length = n + 2) (hm : m = n + 1) (e : i = n) : rgThs L (t + i / m) ++ [trQ L (rgW L t) i] = rgThs L (t + (i + 1) / m) := by
  subst hm e
  rw [Nat.div_eq_of_lt (Nat.lt_succ_self i), Nat.div_self (Nat.succ_pos i), Nat.add_zero, rgThs_succ, hn, Nat.add_sub_cancel]
theorem th_mid {L : List Rat} {t i n m : Nat} (hm : m = n + 1) (hi : i + 1 ≤ m) (e : i ≠ n) : rgThs L (t + (i + 1) / m) = rgThs L (t + i / m) := by
  rw [Nat.div_eq_of_lt (show i < m by omega), Nat.div_eq_of_lt (show i + 1 < m by omega)]
theorem OwnR.apLow {α : Type} {base : Nat} {T : TypeId} {size : Nat} {R : World → List Value → α → Prop} {w : World} {v : Value} {l : List α} {g : Nat} (h : OwnR base T size R w v l) (hg : g < base) : Ap v.ownBlock g := fun e => by
  obtain ⟨css, _, _, _, h4⟩ := h
  have := (h4.lt g e).1
  omega
theorem ring_info : (Tryz.prog.info? 32).map (fun i => (i.zero, i.size, i.bytes)) = some (some (.agg #[.bool false, .slice none 0 0, .slice none 0 0]), 3, 56) := by kernel_rfl
end Go.Proofs.YtkfekkhhfpkfaaaGreat
