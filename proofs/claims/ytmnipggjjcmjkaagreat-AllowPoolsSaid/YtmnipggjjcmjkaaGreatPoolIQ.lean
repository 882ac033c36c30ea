/-
  slices.Equal at bools; law 08: AllowPools.
-/
import Derived.Test.YtmnipggjjcmjkaaGreatPoolAQ
set_option linter.unusedSimpArgs false
set_option linter.unusedVariables false
namespace Go.Proofs.YtmnipggjjcmjkaaGreat
open Go.RowKit Dg
attribute [local go_sem ↓] Go.wp_at_zero Go.wp_at_succ

set_option maxRecDepth 100000 in
set_option maxHeartbeats 4000000 in
theorem sl_EqB_nil {v u : Value} {L : List Bool} (w : World) (hx : Rows 1 4 BC w v L) (hy : Rows 1 4 BC w u L) (h1 : L.length < 1) (h2 : L.length ≤ 1000) : Calls Tryz.prog 33 #[v, u] w (RetV w (.bool true)) := by
  obtain ⟨ahx, khx, rfl, hx1, hx2, -⟩ := hx.toI.slice
  clear hx
  obtain ⟨ahy, khy, rfl, hy1, hy2, -⟩ := hy.toI.slice
  clear hy
  have hs := Below.refl w.heap.size w
  go_enter Tryz.func33, Tryz.ntmps33
  have q1b : ((L.length : Int) == (L.length : Int)) = true := beq_self_eq_true _
  have q1n : ((L.length : Int) != (L.length : Int)) = false := bne_self_eq_false _
  go_wp2
  go_loopw [13] (fun s13 wq => ∃ k : Nat, k ≤ L.length ∧ s13 = .int .i64 k ∧ Below w.heap.size w wq) (fun s13 _ => L.length - (intOf s13).toNat)
  case atStart => exact ⟨0, Nat.zero_le _, rfl, hs⟩
  case round =>
    clear hs
    obtain ⟨k, k_le, rfl, hs⟩ := hrel
    have q2 : ¬ (k < L.length) := (by omega)
    have q2d : ((k : Int) < (L.length : Int)) = False := eq_false (by omega)
    go_wp2
    go_ret
    exact ⟨rfl, hs⟩

set_option maxRecDepth 100000 in
set_option maxHeartbeats 4000000 in
theorem sl_EqB_some {v u : Value} {L : List Bool} (w : World) (hx : Rows 1 4 BC w v L) (hy : Rows 1 4 BC w u L) (h1 : 1 ≤ L.length) (h2 : L.length ≤ 1000) : Calls Tryz.prog 33 #[v, u] w (RetV w (.bool true)) := by
  obtain ⟨bhx, ohx, khx, rfl, hx1, hx2, -⟩ := hx.open_ (by omega)
  obtain ⟨bhy, ohy, khy, rfl, hy1, hy2, -⟩ := hy.open_ (by omega)
  have hs := Below.refl w.heap.size w
  go_enter Tryz.func33, Tryz.ntmps33
  have q1b : ((L.length : Int) == (L.length : Int)) = true := beq_self_eq_true _
  have q1n : ((L.length : Int) != (L.length : Int)) = false := bne_self_eq_false _
  go_wp2
  go_loopw [13] (fun s13 wq => ∃ k : Nat, k ≤ L.length ∧ s13 = .int .i64 k ∧ Below w.heap.size w wq ∧ Rows 1 4 BC wq (.slice (some ⟨bhx, ohx, none⟩) L.length khx) L ∧ Rows 1 4 BC wq (.slice (some ⟨bhy, ohy, none⟩) L.length khy) L) (fun s13 _ => L.length - (intOf s13).toNat)
  case atStart => exact ⟨0, Nat.zero_le _, rfl, hs, hx, hy⟩
  case round =>
    clear hx hy hs
    obtain ⟨k, k_le, rfl, hs, hx, hy⟩ := hrel
    by_cases q2 : k < L.length
    · have q2d : ((k : Int) < (L.length : Int)) = True := eq_true (by omega)
      go_upto_region 6 with fail
      have BI3a : k < L.length := by omega
      have BI3b : ((k : Int) : Int) < (L.length : Int) := by omega
      obtain ⟨Ee40, le4⟩ := rowB_at hx (show k < L.length by omega)
      obtain ⟨bl0, Hbl0⟩ : ∃ z : Bool, nthB L k = z := ⟨_, rfl⟩
      replace Hbl0 := Lib.hid Hbl0
      rw [Hbl0.out] at Ee40
      obtain ⟨Ee50, le5⟩ := rowB_at hy (show k < L.length by omega)
      rw [Hbl0.out] at Ee50
      refine U_region (S := fun w' => w'.cell? ⟨bhx, ohx + k, none⟩ = some (.bool bl0) ∧ w'.cell? ⟨bhy, ohy + k, none⟩ = some (.bool bl0)) (by kernel_rfl) 9 ?_
      refine AnyU.abs ?_
      intro w21 hW
      have hb : Below wr.heap.size wr w21 := by rw [hW]; exact bDrew _
      replace hs := bStep hs hb
      replace hx := rowsJ BC.kept _ _ _ hx hb
      replace hy := rowsJ BC.kept _ _ _ hy hb
      replace Ee40 := cellK Ee40 hb
      replace Ee50 := cellK Ee50 hb
      clear hb hW
      have hH := (show w21.cell? ⟨bhx, ohx + k, none⟩ = some (.bool bl0) ∧ w21.cell? ⟨bhy, ohy + k, none⟩ = some (.bool bl0) from ⟨Ee40, Ee50⟩)
      refine U_tk 0 16 ?_ ?_ hH ?_
      rotate_left
      · (intro w hSw; (try dsimp only at hSw); go_simp; try with_reducible rfl)
      simp only [LY]
      refine U_tk 1 17 ?_ ?_ hH ?_
      rotate_left
      · (intro w hSw; (try dsimp only at hSw); go_simp; try with_reducible rfl)
      simp only [LY]
      refine U_tk 2 18 ?_ ?_ hH ?_
      rotate_left
      · (intro w hSw; (try dsimp only at hSw); go_simp; try with_reducible rfl)
      simp only [LY]
      refine U_tk 3 19 ?_ ?_ hH ?_
      rotate_left
      · (intro w hSw; (try dsimp only at hSw); go_simp; try with_reducible rfl)
      simp only [LY]
      refine U_tk 4 20 ?_ ?_ hH ?_
      rotate_left
      · (intro w hSw; (try dsimp only at hSw); go_simp; try with_reducible rfl)
      simp only [LY]
      refine U_tk 5 21 ?_ ?_ hH ?_
      rotate_left
      · (intro w hSw; (try dsimp only at hSw); go_simp; try with_reducible rfl)
      simp only [LY]
      refine U_tk 6 22 ?_ ?_ hH ?_
      rotate_left
      · (intro w hSw; (try dsimp only at hSw); go_simp; try with_reducible rfl)
      simp only [LY]
      refine U_tk 7 23 ?_ ?_ hH ?_
      rotate_left
      · (intro w hSw; (try dsimp only at hSw); go_simp; try with_reducible rfl)
      simp only [LY]
      refine U_tk 8 24 ?_ ?_ hH ?_
      rotate_left
      · (intro w hSw; (try dsimp only at hSw); go_simp; try with_reducible rfl)
      simp only [LY]
      clear hH
      refine U_endN (by kernel_rfl) ?_
      clear Ee40 Ee50
      go_wp2
      go_roundw
      case rel => exact ⟨k + 1, by omega, by go_num, hs, hx, hy⟩
      all_goals first | (simp [intOf]; done) | (simp [intOf]; omega)
    · have q2d : ((k : Int) < (L.length : Int)) = False := eq_false (by omega)
      go_wp2
      go_ret
      exact ⟨rfl, hs⟩

theorem sl_EqB {v u : Value} {L : List Bool} (w : World) (hx : Rows 1 4 BC w v L) (hy : Rows 1 4 BC w u L) (h2 : L.length ≤ 1000) : Calls Tryz.prog 33 #[v, u] w (RetV w (.bool true)) := by
  by_cases h : L.length < 1
  · exact sl_EqB_nil w hx hy h h2
  · exact sl_EqB_some w hx hy (by omega) h2
abbrev LF := List (List (Int × Int))
def nthF (l : LF) (i : Nat) : List (Int × Int) := l.getD i []
theorem nthF_some {l : LF} {i : Nat} (h : i < l.length) : l[i]? = some (nthF l i) := by
  unfold nthF
  rw [List.getD_eq_getElem?_getD, List.getElem?_eq_getElem h]; rfl
theorem nthF_mem {l : LF} {i : Nat} (h : i < l.length) : nthF l i ∈ l := List.mem_of_getElem? (nthF_some h)
/-- The batches as fractions. -/
def baF (l : LF) : List (List Rat) := l.map fun m => m.map fr8
theorem baF_at {l : LF} {A : List (List Rat)} (hA : baF l = A) {i : Nat} (h : i < l.length) : (nthF l i).map fr8 = nthL A i := by
  subst hA
  have : (baF l)[i]? = some ((nthF l i).map fr8) := by unfold baF; rw [List.getElem?_map, nthF_some h]; rfl
  rw [nthL_some (by unfold baF; simpa using h)] at this
  injection this with this
  exact this.symm
def tkA (A : List (List Rat)) (k : Nat) : List (List Rat) := A.take k
theorem tkA_len (A : List (List Rat)) (k : Nat) : (tkA A k).length ≤ k := by unfold tkA; rw [List.length_take]; omega
theorem tkA_all (A : List (List Rat)) : tkA A A.length = A := List.take_length
theorem baF_take {l : LF} {A : List (List Rat)} (hA : baF l = A) {i : Nat} (h : i < l.length) : tkA A (i + 1) = tkA A i ++ [nthL A i] := by
  subst hA
  have hi : i < (baF l).length := by unfold baF; simpa using h
  unfold tkA; rw [List.take_add_one, nthL_some hi]; rfl
/-- Few batches, and the first k are right. -/
def rgt (A : List (List Rat)) (k : Nat) : Bool := decide (1 ≤ A.length ∧ A.length ≤ 16) && (List.range k).all fun i => chE (nthL A i) == 0
theorem rgt_next (A : List (List Rat)) (k : Nat) : rgt A (k + 1) = (rgt A k && (chE (nthL A k) == 0)) := by
  unfold rgt
  rw [List.range_succ, List.all_append]
  simp [Bool.and_assoc]
theorem rgt_T {A : List (List Rat)} {k : Nat} (h : rgt A k = true) (e : chE (nthL A k) = 0) : true = rgt A (k + 1) := by rw [rgt_next, h, e]; rfl
theorem rgt_F1 {A : List (List Rat)} {k : Nat} (h : ¬ rgt A k = true) : false = rgt A (k + 1) := by rw [rgt_next, Bool.eq_false_iff.2 h]; rfl
theorem rgt_F2 {A : List (List Rat)} {k : Nat} (e : ¬ chE (nthL A k) = 0) : false = rgt A (k + 1) := by
  rw [rgt_next, show (chE (nthL A k) == 0) = false from by simpa using e, Bool.and_false]
theorem rgt_iff (A : List (List Rat)) (k : Nat) : rgt A k = true ↔ (1 ≤ A.length ∧ A.length ≤ 16) ∧ allOk A k := by
  unfold rgt allOk
  simp
theorem rgt_zero {A : List (List Rat)} (h : ¬ (1 ≤ A.length ∧ A.length ≤ 16)) : false = rgt A 0 := by unfold rgt; rw [decide_eq_false h]; rfl
theorem rgt_one {A : List (List Rat)} (h : 1 ≤ A.length ∧ A.length ≤ 16) : true = rgt A 0 := by unfold rgt; rw [decide_eq_true h]; rfl
theorem rowsFt1 {w : World} {g : Nat} {T : TypeId} {n1 d1 : Int} (h : Bx w g T #[.int .i64 n1, .int .i64 d1]) : RowsI 2 FC w (.slice (some ⟨g, 0, none⟩) 1 1) [(n1, d1)] := by
  refine ⟨_, 1, rfl, Nat.le_refl _, by decide, (fun e => by cases e), fun i x hx => ?_⟩
  match i, hx with
  | 0, hx =>
    cases hx
    refine ⟨g, 0, [.int .i64 n1, .int .i64 d1], rfl, rfl, fun j u hu => ?_, rfl⟩
    match j, hu with
    | 0, hu => cases hu; exact h.at 0 rfl
    | 1, hu => cases hu; exact h.at 1 rfl
theorem l1_OfL {n d : Int} {q : Rat} (w : World) (o : DOk (n, d)) (hq : fracQ n d = q) : Calls Tryz.prog 13 #[.agg #[.int .i64 n, .int .i64 d]] w (RetP w q) := l1_Of_ w o hq
theorem r1_OfL {n d : Int} {q : Rat} (w : World) (o : DOk (n, d)) (hq : fracQ n d = q) : Calls Tryz.prog 15 #[.agg #[.int .i64 n, .int .i64 d]] w (RetQ w q) := r1_Of_ w o hq
theorem slp_info : (Tryz.prog.info? 46).map (fun i => (i.zero, i.size, i.bytes)) = some (some (.slice none 0 0), 1, 24) := by kernel_rfl
theorem slr_info : (Tryz.prog.info? 47).map (fun i => (i.zero, i.size, i.bytes)) = some (some (.slice none 0 0), 1, 24) := by kernel_rfl

theorem okF_next {l : LF} {k : Nat} (h : ∀ i, i < k → (nthF l i).length ≤ 70 ∧ (nthF l i).all smF24 = true) (h1 : (nthF l k).length ≤ 70) (h2 : (nthF l k).all smF24 = true) : ∀ i, i < k + 1 → (nthF l i).length ≤ 70 ∧ (nthF l i).all smF24 = true := fun i hi => by
  by_cases c : i = k
  · subst c; exact ⟨h1, h2⟩
  · exact h i (by omega)
theorem lenF_le {l : LF} {A : List (List Rat)} (hA : baF l = A) : ∀ {k : Nat}, (∀ i, i < k → (nthF l i).length ≤ 70 ∧ (nthF l i).all smF24 = true) → k ≤ l.length → lenS A k ≤ 70 * k
  | 0, _, _ => Nat.le_refl _
  | k + 1, h, hk => by
    have h1 := lenF_le hA (k := k) (fun i hi => h i (by omega)) (by omega)
    have h2 := (h k (by omega)).1
    have h3 : (nthL A k).length = (nthF l k).length := by rw [← baF_at hA (show k < l.length by omega), List.length_map]
    show lenS A k + (nthL A k).length ≤ _
    omega
theorem szF {l : LF} {A : List (List Rat)} (hA : baF l = A) (h : ∀ i, i < A.length → (nthF l i).all smF24 = true) : ∀ i, i < A.length → SzL (nthL A i) := fun i hi x hx => by
  have hl : A.length = l.length := by subst hA; simp [baF]
  rw [← baF_at hA (show i < l.length by omega)] at hx
  obtain ⟨y, hy, rfl⟩ := List.mem_map.1 hx
  exact smF24_sz (List.all_eq_true.1 (h i hi) y hy)
theorem rowsLJ {α : Type} {sz : Nat} {T U : TypeId} {S : World → List Value → α → Prop} {l : List (List α)} (hS : Kept S) (v : Value) (W W' : World) (h : Rows 1 T (LR sz U S) W v l) (hb : Below W.heap.size W W') : Rows 1 T (LR sz U S) W' v l := h.monoB (LR.keptB hS) hb
theorem RowsI.openL {α : Type} {size : Nat} {R : World → List Value → α → Prop} {w : World} {v : Value} {l : List α} (h : RowsI size R w v l) (hl : 0 < l.length) : ∃ b o c, v = .slice (some ⟨b, o, none⟩) l.length c ∧ l.length ≤ c ∧ c ≤ 9223372036854775807 := by
  obtain ⟨ao, c, e, h1, h2, h3, h5⟩ := h
  obtain ⟨b, o, cs, ea, _⟩ := h5 0 (l[0]'hl) (List.getElem?_eq_getElem hl)
  subst ea
  exact ⟨b, o, c, e, h1, h2⟩

set_option maxRecDepth 100000 in
set_option maxHeartbeats 16000000 in
theorem l8_Pools_b1 (v : Value) (l : LF) (n1 d1 : Int) (w : World) (hl : RowsI 1 (LRI 2 FC) w v l) (h1 : 20 < l.length) :
    Calls Tryz.prog 6 #[v, .agg #[.int .i64 n1, .int .i64 d1]] w (RetV w (.bool true)) := by
  obtain ⟨ao, cap, rfl, hc1, hc2, hc3⟩ := hl.slice
  have hs := Below.refl w.heap.size w
  have HL := Lib.hid hl
  clear hl 
  go_enter Tryz.func6, Tryz.ntmps6
  go_wp2_with fail
  refine Calls.abs ?_
  intro w1 hW
  have hG : Gr [] w w1 := by rw [hW]; exact (Gr.refl _ _).alloc
  have hbw : Below w.heap.size w w1 := hG.below0 hs.size
  have hk : KeepD w w1 := hG.keep True.intro
  have sz_w1 : w.heap.size ≤ w.heap.size := hs.size
  have Bllevel : Bx w1 (w.heap.size) 23 #[.int .i64 n1, .int .i64 d1] := by rw [hW]; exact (Bx.new0 _ _ _)
  replace hs := hs.trans hbw
  clear hW hG hk hbw
  have hz_w1 : w.heap.size < w1.heap.size := Bllevel.lt
  with_reducible refine (l8_awake _).mono ?_
  rintro e w2 ⟨rfl, hb⟩
  replace hs := bStep hs hb
  replace Bllevel := Bllevel.mono hb
  clear hb
  have q1 : 20 < l.length := (by omega)
  have q1d : ((20 : Int) < (l.length : Int)) = True := eq_true (by omega)
  go_wp2_with fail
  with_reducible refine (l8_awake _).mono ?_
  rintro e w3 ⟨rfl, hb⟩
  replace hs := bStep hs hb
  replace Bllevel := Bllevel.mono hb
  clear hb
  go_wp2
  go_ret
  exact ⟨rfl, hs⟩

set_option maxRecDepth 100000 in
set_option maxHeartbeats 16000000 in
theorem l8_Pools_b2 (v : Value) (l : LF) (n1 d1 : Int) (w : World) (hl : RowsI 1 (LRI 2 FC) w v l) (h1 : l.length ≤ 20) (hT : ¬ ([(n1, d1)].all smF8 = true)) :
    Calls Tryz.prog 6 #[v, .agg #[.int .i64 n1, .int .i64 d1]] w (RetV w (.bool true)) := by
  obtain ⟨ao, cap, rfl, hc1, hc2, hc3⟩ := hl.slice
  have hs := Below.refl w.heap.size w
  have HL := Lib.hid hl
  have HT := Lib.hid hT
  clear hl hT
  go_enter Tryz.func6, Tryz.ntmps6
  go_wp2_with fail
  refine Calls.abs ?_
  intro w1 hW
  have hG : Gr [] w w1 := by rw [hW]; exact (Gr.refl _ _).alloc
  have hbw : Below w.heap.size w w1 := hG.below0 hs.size
  have hk : KeepD w w1 := hG.keep True.intro
  have sz_w1 : w.heap.size ≤ w.heap.size := hs.size
  have Bllevel : Bx w1 (w.heap.size) 23 #[.int .i64 n1, .int .i64 d1] := by rw [hW]; exact (Bx.new0 _ _ _)
  replace hs := hs.trans hbw
  clear hW hG hk hbw
  have hz_w1 : w.heap.size < w1.heap.size := Bllevel.lt
  with_reducible refine (l8_awake _).mono ?_
  rintro e w2 ⟨rfl, hb⟩
  replace hs := bStep hs hb
  replace Bllevel := Bllevel.mono hb
  clear hb
  have q1 : ¬ (20 < l.length) := (by omega)
  have q1d : ((20 : Int) < (l.length : Int)) = False := eq_false (by omega)
  have clevel_0 : w2.cell? ⟨w.heap.size, 0, none⟩ = some (.int .i64 n1) := Bllevel.at 0 rfl
  have clevel_1 : w2.cell? ⟨w.heap.size, 1, none⟩ = some (.int .i64 d1) := Bllevel.at 1 rfl
  have Llevel : w.heap.size < w2.heap.size := Bllevel.lt
  go_wp2_with fail
  clear clevel_0 clevel_1 Llevel
  refine Calls.abs ?_
  intro w3 hW
  have hG : Gr [] w2 w3 := by rw [hW]; exact (Gr.refl _ _).alloc
  have hbw : Below w.heap.size w2 w3 := hG.below0 hs.size
  have hk : KeepD w2 w3 := hG.keep True.intro
  have sz_w3 : w.heap.size ≤ w2.heap.size := hs.size
  have nlevel_w3 : w.heap.size < w2.heap.size := Bllevel.lt
  have Blls : Bx w3 (w2.heap.size) 23 #[.int .i64 n1, .int .i64 d1] := by rw [hW]; exact (Bx.new0 _ _ _)
  replace hs := hs.trans hbw
  replace Bllevel := hG.bx Bllevel notMem0
  clear hW hG hk hbw
  have hz_w3 : w2.heap.size < w3.heap.size := Blls.lt
  with_reducible refine (l8_small8 _ [(n1, d1)] _ (rowsFt1 Blls)).mono ?_
  rintro e w4 ⟨rfl, hb⟩
  replace hs := bStep hs hb
  replace Bllevel := Bllevel.mono hb
  replace Blls := Blls.mono hb
  clear hb
  obtain ⟨b2, Hb2⟩ : ∃ b : Bool, b = [(n1, d1)].all smF8 := ⟨_, rfl⟩
  rw [← Hb2]
  replace Hb2 := Lib.hid Hb2
  have q3 : ¬ ([(n1, d1)].all smF8 = true) := HT.out
  obtain rfl : b2 = false := by rw [Hb2.out]; simpa using q3
  have q3H := Lib.hid q3
  clear q3
  go_wp2_with fail
  with_reducible refine (l8_awake _).mono ?_
  rintro e w5 ⟨rfl, hb⟩
  replace hs := bStep hs hb
  replace Bllevel := Bllevel.mono hb
  replace Blls := Blls.mono hb
  clear hb
  go_wp2
  go_ret
  exact ⟨rfl, hs⟩

set_option maxRecDepth 100000 in
set_option maxHeartbeats 16000000 in
theorem l8_Pools_m0 (v : Value) (l : LF) (n1 d1 : Int) (w : World) (hl : RowsI 1 (LRI 2 FC) w v l) (h1 : l.length < 1) (hT : [(n1, d1)].all smF8 = true) (hlo : ∀ m ∈ l, ∀ x ∈ m, DOk x) (o1 : DOk (n1, d1)) (A : List (List Rat)) (hA : baF l = A) (la1 : A.length ≤ l.length) (la2 : l.length ≤ A.length) (lev : Rat) (hu1 : fracQ n1 d1 = lev) (sl : SzQ 1 lev) (W : Int) (O : List Bool) (hW : poolE lev A = W) (hO : poolO lev A = O) (lO : O.length ≤ 20) (hr0 : false = rgt A 0) (h12 : W = 0 → lenS A A.length ≤ 12) (hr : ¬ rgt A A.length = true) :
    Calls Tryz.prog 6 #[v, .agg #[.int .i64 n1, .int .i64 d1]] w (RetV w (.bool true)) := by
  obtain ⟨ao, cap, rfl, hc1, hc2, hc3⟩ := hl.slice
  have hs := Below.refl w.heap.size w
  have HL := Lib.hid hl
  have HT := Lib.hid hT
  have HLO := Lib.hid hlo
  have O1 := Lib.hid o1
  have HAE := Lib.hid hA
  have HU1 := Lib.hid hu1
  have HW := Lib.hid hW
  have HO := Lib.hid hO
  have HR0 := Lib.hid hr0
  have HW12 := Lib.hid h12
  have HR := Lib.hid hr
  clear hl hT hlo o1 hA hu1 hW hO hr0 h12 hr
  obtain ⟨i0, hi, hz0, hz1, hz2⟩ := info_parts slp_info
  obtain ⟨j0, hj, hy0, hy1, hy2⟩ := info_parts slr_info
  go_enter Tryz.func6, Tryz.ntmps6
  go_wp2_with fail
  refine Calls.abs ?_
  intro w1 hW
  have hG : Gr [] w w1 := by rw [hW]; exact (Gr.refl _ _).alloc
  have hbw : Below w.heap.size w w1 := hG.below0 hs.size
  have hk : KeepD w w1 := hG.keep True.intro
  have sz_w1 : w.heap.size ≤ w.heap.size := hs.size
  have Bllevel : Bx w1 (w.heap.size) 23 #[.int .i64 n1, .int .i64 d1] := by rw [hW]; exact (Bx.new0 _ _ _)
  replace hs := hs.trans hbw
  clear hW hG hk hbw
  have hz_w1 : w.heap.size < w1.heap.size := Bllevel.lt
  with_reducible refine (l8_awake _).mono ?_
  rintro e w2 ⟨rfl, hb⟩
  replace hs := bStep hs hb
  replace Bllevel := Bllevel.mono hb
  clear hb
  have q1 : ¬ (20 < l.length) := (by omega)
  have q1d : ((20 : Int) < (l.length : Int)) = False := eq_false (by omega)
  have clevel_0 : w2.cell? ⟨w.heap.size, 0, none⟩ = some (.int .i64 n1) := Bllevel.at 0 rfl
  have clevel_1 : w2.cell? ⟨w.heap.size, 1, none⟩ = some (.int .i64 d1) := Bllevel.at 1 rfl
  have Llevel : w.heap.size < w2.heap.size := Bllevel.lt
  go_wp2_with fail
  clear clevel_0 clevel_1 Llevel
  refine Calls.abs ?_
  intro w3 hW
  have hG : Gr [] w2 w3 := by rw [hW]; exact (Gr.refl _ _).alloc
  have hbw : Below w.heap.size w2 w3 := hG.below0 hs.size
  have hk : KeepD w2 w3 := hG.keep True.intro
  have sz_w3 : w.heap.size ≤ w2.heap.size := hs.size
  have nlevel_w3 : w.heap.size < w2.heap.size := Bllevel.lt
  have Blls : Bx w3 (w2.heap.size) 23 #[.int .i64 n1, .int .i64 d1] := by rw [hW]; exact (Bx.new0 _ _ _)
  replace hs := hs.trans hbw
  replace Bllevel := hG.bx Bllevel notMem0
  clear hW hG hk hbw
  have hz_w3 : w2.heap.size < w3.heap.size := Blls.lt
  with_reducible refine (l8_small8 _ [(n1, d1)] _ (rowsFt1 Blls)).mono ?_
  rintro e w4 ⟨rfl, hb⟩
  replace hs := bStep hs hb
  replace Bllevel := Bllevel.mono hb
  replace Blls := Blls.mono hb
  clear hb
  obtain ⟨b2, Hb2⟩ : ∃ b : Bool, b = [(n1, d1)].all smF8 := ⟨_, rfl⟩
  rw [← Hb2]
  replace Hb2 := Lib.hid Hb2
  have q3 : [(n1, d1)].all smF8 = true := HT.out
  obtain rfl : b2 = true := by rw [Hb2.out]; exact q3
  have q3H := Lib.hid q3
  clear q3
  have q4 : ¬ (1 ≤ l.length) := (by omega)
  have q4d : ((1 : Int) ≤ (l.length : Int)) = False := eq_false (by omega)
  go_wp2
  go_loopw [5, 6, 7, 8, 41] (fun s5 s6 s7 s8 s41 wq => ∃ k : Nat, k ≤ l.length ∧ s41 = .int .i64 k ∧ s7 = .int .i64 (((lenS A k : Nat) : Int)) ∧ s8 = .bool (rgt A k) ∧ Below w.heap.size w wq ∧ Bx wq (w.heap.size) 23 #[.int .i64 n1, .int .i64 d1] ∧ Bx wq (w2.heap.size) 23 #[.int .i64 n1, .int .i64 d1] ∧ OwnL w.heap.size 46 3 29 PC wq s5 (tkA A k) ∧ OwnL w.heap.size 47 3 36 RC wq s6 (tkA A k) ∧ (∀ i, i < k → (nthF l i).length ≤ 70 ∧ (nthF l i).all smF24 = true)) (fun s5 s6 s7 s8 s41 _ => l.length - (intOf s41).toNat)
  case atStart => exact ⟨0, Nat.zero_le _, rfl, rfl, (congrArg _ HR0.out), hs, Bllevel, Blls, OwnR.nil _ _ _ _ _, OwnR.nil _ _ _ _ _, (fun i h_ => absurd h_ (Nat.not_lt_zero _))⟩
  case round =>
    clear Bllevel Blls hs
    obtain ⟨k, k_le, rfl, rfl, rfl, hs, Bllevel, Blls, Ooa, Oob, HF⟩ := hrel
    replace HF := Lib.hid HF
    obtain ⟨b5, Hb5⟩ : ∃ b : Bool, b = rgt A k := ⟨_, rfl⟩
    rw [← Hb5]
    replace Hb5 := Lib.hid Hb5
    have lta := tkA_len A k
    have lnk := lenF_le HAE.out HF.out k_le
    have lnj1 : k < l.length → (nthL A k).length ≤ (nthF l k).length := fun h_ => by rw [← baF_at HAE.out h_, List.length_map]; exact Nat.le_refl _
    have lnj2 : k < l.length → (nthF l k).length ≤ (nthL A k).length := fun h_ => by rw [← baF_at HAE.out h_, List.length_map]; exact Nat.le_refl _
    have q6 : ¬ (k < l.length) := (by omega)
    have q6d : ((k : Int) < (l.length : Int)) = False := eq_false (by omega)
    obtain rfl : k = A.length := by omega
    rw [tkA_all] at Ooa Oob
    have hRa := Ooa.rows
    have hRb := Oob.rows
    clear Ooa Oob lta
    have HSZ := Lib.hid (szF HAE.out (fun i hi => (HF.out i hi).2))
    obtain ⟨aa, ca, rfl, ha1, ha2, -⟩ := hRa.toI.slice
    obtain ⟨ab, cb, rfl, hb1, hb2, -⟩ := hRb.toI.slice
    have q7 : ¬ (rgt A A.length = true) := HR.out
    obtain rfl : b5 = false := by rw [Hb5.out]; simpa using q7
    have q7H := Lib.hid q7
    clear q7
    have clevel_0 : wr.cell? ⟨w.heap.size, 0, none⟩ = some (.int .i64 n1) := Bllevel.at 0 rfl
    have clevel_1 : wr.cell? ⟨w.heap.size, 1, none⟩ = some (.int .i64 d1) := Bllevel.at 1 rfl
    have Llevel : w.heap.size < wr.heap.size := Bllevel.lt
    go_wp2_with fail
    clear clevel_0 clevel_1 Llevel
    with_reducible refine (l1_OfL _ O1.out HU1.out).mono ?_
    rintro e w25 ⟨_, rfl, h8, hb⟩
    obtain ⟨sh8, ah8, nh8, ch8, Ah8, Nh8, Ch8, rfl⟩ := h8.shape
    replace hs := bStep hs hb
    replace Bllevel := Bllevel.mono hb
    replace Blls := Blls.mono hb
    replace hRa := rowsLJ PC.kept _ _ _ hRa hb
    replace hRb := rowsLJ RC.kept _ _ _ hRb hb
    clear hb
    go_wp2_with fail
    with_reducible refine (al_Pool_all _ hRa h8 (sl.mono (by decide)) HSZ.out HW.out HO.out HW12.out).mono ?_
    rintro e w26 ⟨_, _, rfl, ho9, rfl, hb⟩
    obtain ⟨aho9, kho9, rfl, ho91, ho92, -⟩ := ho9.toI.slice
    replace hs := bStep hs hb
    replace Bllevel := Bllevel.mono hb
    replace Blls := Blls.mono hb
    replace h8 := h8.mono hb
    replace hRa := rowsLJ PC.kept _ _ _ hRa hb
    replace hRb := rowsLJ RC.kept _ _ _ hRb hb
    clear hb
    have clevel_0 : w26.cell? ⟨w.heap.size, 0, none⟩ = some (.int .i64 n1) := Bllevel.at 0 rfl
    have clevel_1 : w26.cell? ⟨w.heap.size, 1, none⟩ = some (.int .i64 d1) := Bllevel.at 1 rfl
    have Llevel : w.heap.size < w26.heap.size := Bllevel.lt
    go_wp2_with fail
    clear clevel_0 clevel_1 Llevel
    with_reducible refine (r1_OfL _ O1.out HU1.out).mono ?_
    rintro e w27 ⟨_, rfl, h10, hb⟩
    obtain ⟨sh10, ah10, nh10, ch10, Ah10, Nh10, Ch10, rfl⟩ := h10.shape
    replace hs := bStep hs hb
    replace Bllevel := Bllevel.mono hb
    replace Blls := Blls.mono hb
    replace h8 := h8.mono hb
    replace hRa := rowsLJ PC.kept _ _ _ hRa hb
    replace hRb := rowsLJ RC.kept _ _ _ hRb hb
    replace ho9 := rowsJ BC.kept _ _ _ ho9 hb
    clear hb
    go_wp2_with fail
    with_reducible refine (r8_Pool_all _ hRb h10 (sl.mono (by decide)) HSZ.out HW.out HO.out HW12.out).mono ?_
    rintro e w28 ⟨_, _, rfl, ho11, rfl, hb⟩
    obtain ⟨aho11, kho11, rfl, ho111, ho112, -⟩ := ho11.toI.slice
    replace hs := bStep hs hb
    replace Bllevel := Bllevel.mono hb
    replace Blls := Blls.mono hb
    replace h8 := h8.mono hb
    replace h10 := h10.mono hb
    replace hRa := rowsLJ PC.kept _ _ _ hRa hb
    replace hRb := rowsLJ RC.kept _ _ _ hRb hb
    replace ho9 := rowsJ BC.kept _ _ _ ho9 hb
    clear hb
    have q12b : (W == W) = true := beq_self_eq_true _
    have q12n : (W != W) = false := bne_self_eq_false _
    go_wp2_with fail
    with_reducible refine (sl_EqB _ ho9 ho11 (by omega)).mono ?_
    rintro e w29 ⟨rfl, hb⟩
    replace hs := bStep hs hb
    replace Bllevel := Bllevel.mono hb
    replace Blls := Blls.mono hb
    replace h8 := h8.mono hb
    replace h10 := h10.mono hb
    replace hRa := rowsLJ PC.kept _ _ _ hRa hb
    replace hRb := rowsLJ RC.kept _ _ _ hRb hb
    replace ho9 := rowsJ BC.kept _ _ _ ho9 hb
    replace ho11 := rowsJ BC.kept _ _ _ ho11 hb
    clear hb
    go_wp2
    go_ret
    exact ⟨rfl, hs⟩

set_option maxRecDepth 100000 in
set_option maxHeartbeats 16000000 in
theorem l8_Pools_m1 (v : Value) (l : LF) (n1 d1 : Int) (w : World) (hl : RowsI 1 (LRI 2 FC) w v l) (h1 : 16 < l.length) (h2 : l.length ≤ 20) (hT : [(n1, d1)].all smF8 = true) (hlo : ∀ m ∈ l, ∀ x ∈ m, DOk x) (o1 : DOk (n1, d1)) (A : List (List Rat)) (hA : baF l = A) (la1 : A.length ≤ l.length) (la2 : l.length ≤ A.length) (lev : Rat) (hu1 : fracQ n1 d1 = lev) (sl : SzQ 1 lev) (W : Int) (O : List Bool) (hW : poolE lev A = W) (hO : poolO lev A = O) (lO : O.length ≤ 20) (hr0 : false = rgt A 0) (h12 : W = 0 → lenS A A.length ≤ 12) (hr : ¬ rgt A A.length = true) :
    Calls Tryz.prog 6 #[v, .agg #[.int .i64 n1, .int .i64 d1]] w (RetV w (.bool true)) := by
  obtain ⟨lb, lo, cap, rfl, hc1, hc2⟩ := hl.openL (by omega)
  have hs := Below.refl w.heap.size w
  have HL := Lib.hid hl
  have HT := Lib.hid hT
  have HLO := Lib.hid hlo
  have O1 := Lib.hid o1
  have HAE := Lib.hid hA
  have HU1 := Lib.hid hu1
  have HW := Lib.hid hW
  have HO := Lib.hid hO
  have HR0 := Lib.hid hr0
  have HW12 := Lib.hid h12
  have HR := Lib.hid hr
  clear hl hT hlo o1 hA hu1 hW hO hr0 h12 hr
  obtain ⟨i0, hi, hz0, hz1, hz2⟩ := info_parts slp_info
  obtain ⟨j0, hj, hy0, hy1, hy2⟩ := info_parts slr_info
  go_enter Tryz.func6, Tryz.ntmps6
  go_wp2_with fail
  refine Calls.abs ?_
  intro w1 hW
  have hG : Gr [] w w1 := by rw [hW]; exact (Gr.refl _ _).alloc
  have hbw : Below w.heap.size w w1 := hG.below0 hs.size
  have hk : KeepD w w1 := hG.keep True.intro
  have sz_w1 : w.heap.size ≤ w.heap.size := hs.size
  have Bllevel : Bx w1 (w.heap.size) 23 #[.int .i64 n1, .int .i64 d1] := by rw [hW]; exact (Bx.new0 _ _ _)
  replace hs := hs.trans hbw
  clear hW hG hk hbw
  have hz_w1 : w.heap.size < w1.heap.size := Bllevel.lt
  with_reducible refine (l8_awake _).mono ?_
  rintro e w2 ⟨rfl, hb⟩
  replace hs := bStep hs hb
  replace Bllevel := Bllevel.mono hb
  clear hb
  have q1 : ¬ (20 < l.length) := (by omega)
  have q1d : ((20 : Int) < (l.length : Int)) = False := eq_false (by omega)
  have clevel_0 : w2.cell? ⟨w.heap.size, 0, none⟩ = some (.int .i64 n1) := Bllevel.at 0 rfl
  have clevel_1 : w2.cell? ⟨w.heap.size, 1, none⟩ = some (.int .i64 d1) := Bllevel.at 1 rfl
  have Llevel : w.heap.size < w2.heap.size := Bllevel.lt
  go_wp2_with fail
  clear clevel_0 clevel_1 Llevel
  refine Calls.abs ?_
  intro w3 hW
  have hG : Gr [] w2 w3 := by rw [hW]; exact (Gr.refl _ _).alloc
  have hbw : Below w.heap.size w2 w3 := hG.below0 hs.size
  have hk : KeepD w2 w3 := hG.keep True.intro
  have sz_w3 : w.heap.size ≤ w2.heap.size := hs.size
  have nlevel_w3 : w.heap.size < w2.heap.size := Bllevel.lt
  have Blls : Bx w3 (w2.heap.size) 23 #[.int .i64 n1, .int .i64 d1] := by rw [hW]; exact (Bx.new0 _ _ _)
  replace hs := hs.trans hbw
  replace Bllevel := hG.bx Bllevel notMem0
  clear hW hG hk hbw
  have hz_w3 : w2.heap.size < w3.heap.size := Blls.lt
  with_reducible refine (l8_small8 _ [(n1, d1)] _ (rowsFt1 Blls)).mono ?_
  rintro e w4 ⟨rfl, hb⟩
  replace hs := bStep hs hb
  replace Bllevel := Bllevel.mono hb
  replace Blls := Blls.mono hb
  clear hb
  obtain ⟨b2, Hb2⟩ : ∃ b : Bool, b = [(n1, d1)].all smF8 := ⟨_, rfl⟩
  rw [← Hb2]
  replace Hb2 := Lib.hid Hb2
  have q3 : [(n1, d1)].all smF8 = true := HT.out
  obtain rfl : b2 = true := by rw [Hb2.out]; exact q3
  have q3H := Lib.hid q3
  clear q3
  have q4 : 1 ≤ l.length := (by omega)
  have q4d : ((1 : Int) ≤ (l.length : Int)) = True := eq_true (by omega)
  go_wp2
  go_loopw [5, 6, 7, 8, 41] (fun s5 s6 s7 s8 s41 wq => ∃ k : Nat, k ≤ l.length ∧ s41 = .int .i64 k ∧ s7 = .int .i64 (((lenS A k : Nat) : Int)) ∧ s8 = .bool (rgt A k) ∧ Below w.heap.size w wq ∧ Bx wq (w.heap.size) 23 #[.int .i64 n1, .int .i64 d1] ∧ Bx wq (w2.heap.size) 23 #[.int .i64 n1, .int .i64 d1] ∧ OwnL w.heap.size 46 3 29 PC wq s5 (tkA A k) ∧ OwnL w.heap.size 47 3 36 RC wq s6 (tkA A k) ∧ (∀ i, i < k → (nthF l i).length ≤ 70 ∧ (nthF l i).all smF24 = true)) (fun s5 s6 s7 s8 s41 _ => l.length - (intOf s41).toNat)
  case atStart => exact ⟨0, Nat.zero_le _, rfl, rfl, (congrArg _ ((decide_eq_false (by omega)).trans HR0.out)), hs, Bllevel, Blls, OwnR.nil _ _ _ _ _, OwnR.nil _ _ _ _ _, (fun i h_ => absurd h_ (Nat.not_lt_zero _))⟩
  case round =>
    clear Bllevel Blls hs
    obtain ⟨k, k_le, rfl, rfl, rfl, hs, Bllevel, Blls, Ooa, Oob, HF⟩ := hrel
    replace HF := Lib.hid HF
    obtain ⟨b5, Hb5⟩ : ∃ b : Bool, b = rgt A k := ⟨_, rfl⟩
    rw [← Hb5]
    replace Hb5 := Lib.hid Hb5
    have lta := tkA_len A k
    have lnk := lenF_le HAE.out HF.out k_le
    have lnj1 : k < l.length → (nthL A k).length ≤ (nthF l k).length := fun h_ => by rw [← baF_at HAE.out h_, List.length_map]; exact Nat.le_refl _
    have lnj2 : k < l.length → (nthF l k).length ≤ (nthL A k).length := fun h_ => by rw [← baF_at HAE.out h_, List.length_map]; exact Nat.le_refl _
    by_cases q6 : k < l.length
    · have q6d : ((k : Int) < (l.length : Int)) = True := eq_true (by omega)
      have BI7a : k < l.length := by omega
      have BI7b : ((k : Int) : Int) < (l.length : Int) := by omega
      obtain ⟨ao8, ko8, Eo8, -, -, ho8, lo8⟩ := rowLI_at HL.out (nthF_some (show k < l.length by omega))
      replace Eo8 := cellK Eo8 hs
      replace ho8 := Lib.hid ho8
      by_cases q9 : 70 < (nthF l k).length
      · have q9d : ((70 : Int) < ((nthF l k).length : Int)) = True := eq_true (by omega)
        go_wp2
        clear lo8 Eo8
        go_ret
        exact ⟨rfl, hs⟩
      · have q9d : ((70 : Int) < ((nthF l k).length : Int)) = False := eq_false (by omega)
        go_wp2_with fail
        clear lo8 Eo8
        with_reducible refine (l8_small24 _ (nthF l k) _ (ho8.out.mono FC.kept hs)).mono ?_
        rintro e w25 ⟨rfl, hb⟩
        replace hs := bStep hs hb
        replace Bllevel := Bllevel.mono hb
        replace Blls := Blls.mono hb
        replace Ooa := Ooa.mono PC.kept hb
        replace Oob := Oob.mono RC.kept hb
        clear hb
        obtain ⟨b10, Hb10⟩ : ∃ b : Bool, b = (nthF l k).all smF24 := ⟨_, rfl⟩
        rw [← Hb10]
        replace Hb10 := Lib.hid Hb10
        by_cases q11 : (nthF l k).all smF24 = true
        · obtain rfl : b10 = true := by rw [Hb10.out]; exact q11
          have q11H := Lib.hid q11
          clear q11
          go_wp2_with fail
          with_reducible refine (l8_list _ (nthF l k) _ (ho8.out.mono FC.kept hs) (by omega) (HLO.out _ (nthF_mem (show k < l.length by omega)))).mono ?_
          rintro e w26 ⟨_, _, rfl, rp12, rr13, hb⟩
          rw [baF_at HAE.out (show k < l.length by omega)] at rp12
          obtain ⟨arp12, krp12, rfl, rp121, rp122, -⟩ := rp12.toI.slice
          rw [baF_at HAE.out (show k < l.length by omega)] at rr13
          obtain ⟨arr13, krr13, rfl, rr131, rr132, -⟩ := rr13.toI.slice
          replace hs := bStep hs hb
          replace Bllevel := Bllevel.mono hb
          replace Blls := Blls.mono hb
          replace Ooa := Ooa.mono PC.kept hb
          replace Oob := Oob.mono RC.kept hb
          clear hb
          go_wp2_with (at_builtin; refine wpList.stop ?_)
          refine ⟨?_⟩
          refine wpList.abs ?_
          intro w27 hW
          have hG : Gr [] w26 w27 := by rw [hW]; exact (Gr.refl _ _).alloc
          have hbw : Below w.heap.size w26 w27 := hG.below0 hs.size
          have hk : KeepD w26 w27 := hG.keep True.intro
          have sz_w27 : w.heap.size ≤ w26.heap.size := hs.size
          have nlevel_w27 : w.heap.size < w26.heap.size := Bllevel.lt
          have nls_w27 : w2.heap.size < w26.heap.size := Blls.lt
          have Blls2 : Bx w27 (w26.heap.size) 46 #[.slice arp12 (nthL A k).length krp12] := by rw [hW]; exact (Bx.new0 _ _ _)
          replace hs := hs.trans hbw
          replace rp12 := rowsJ PC.kept _ _ _ rp12 (hG.below0 (Nat.le_refl _))
          replace rr13 := rowsJ RC.kept _ _ _ rr13 (hG.below0 (Nat.le_refl _))
          replace Bllevel := hG.bx Bllevel notMem0
          replace Blls := hG.bx Blls notMem0
          replace Ooa := Ooa.mono PC.kept (hG.below0 (Nat.le_refl _))
          replace Oob := Oob.mono RC.kept (hG.below0 (Nat.le_refl _))
          clear hW hG hk hbw
          have hz_w27 : w26.heap.size < w27.heap.size := Blls2.lt
          obtain ⟨css, ho1, ho2, ho3, hown0⟩ := Ooa
          refine wpList_append_lies _ rfl _ _ _ rfl w.heap.size 46 i0 _ 1 24 Tryz.underlying70 hi hz0 hz1 hz2 rfl (by omega) _ _ css.flatten rfl hown0 ⟨w26.heap.size, 0, none⟩ 1 1 [.slice arp12 (nthL A k).length krp12] rfl rfl Blls2.news ?_ (by omega) ?_ ?_ ?_ _ rfl ?_
          · intro u hu; simp only [List.mem_cons, List.mem_nil_iff, or_false] at hu; rcases hu with rfl <;> rfl
          · unfold maxLen; (try simp only [List.length_append, List.length_cons, List.length_nil]); omega
          · (try simp only [List.length_append, List.length_cons, List.length_nil]); omega
          · exact hs.size
          intro goa capoa w28 hown1 hgrow hat hlt_
          have hk_ := KeepD.owns hown0 hgrow (by decide)
          have ho := owns_onlyT hown0 hgrow
          replace hs := hs.grown hgrow hs.size (fun k hk => (hown0.lt k hk).1)
          replace Ooa := OwnL.push PC.kept ho1 ho2 ho3 (x := (nthL A k)) rp12 (by simp) hown1 ho (by decide) (by decide)
          replace Bllevel := Bllevel.only ho (by decide)
          replace Blls := Blls.only ho (by decide)
          replace rp12 := rp12.onlyT PC.kept ho (by decide) (by decide)
          replace rr13 := rr13.onlyT RC.kept ho (by decide) (by decide)
          replace Oob := Oob.onlyT RC.kept ho (by decide) (by decide) (by decide)
          clear hk_ ho ho1 ho2 ho3 hown0 hown1 hgrow hat hlt_ Blls2
          go_wp2_with (at_builtin; refine wpList.stop ?_)
          refine ⟨?_⟩
          refine wpList.abs ?_
          intro w29 hW
          have hG : Gr [] w28 w29 := by rw [hW]; exact (Gr.refl _ _).alloc
          have hbw : Below w.heap.size w28 w29 := hG.below0 hs.size
          have hk : KeepD w28 w29 := hG.keep True.intro
          have sz_w29 : w.heap.size ≤ w28.heap.size := hs.size
          have nlevel_w29 : w.heap.size < w28.heap.size := Bllevel.lt
          have nls_w29 : w2.heap.size < w28.heap.size := Blls.lt
          have Blls3 : Bx w29 (w28.heap.size) 47 #[.slice arr13 (nthL A k).length krr13] := by rw [hW]; exact (Bx.new0 _ _ _)
          replace hs := hs.trans hbw
          replace rp12 := rowsJ PC.kept _ _ _ rp12 (hG.below0 (Nat.le_refl _))
          replace rr13 := rowsJ RC.kept _ _ _ rr13 (hG.below0 (Nat.le_refl _))
          replace Bllevel := hG.bx Bllevel notMem0
          replace Blls := hG.bx Blls notMem0
          replace Ooa := Ooa.mono PC.kept (hG.below0 (Nat.le_refl _))
          replace Oob := Oob.mono RC.kept (hG.below0 (Nat.le_refl _))
          clear hW hG hk hbw
          have hz_w29 : w28.heap.size < w29.heap.size := Blls3.lt
          obtain ⟨css, ho1, ho2, ho3, hown0⟩ := Oob
          refine wpList_append_lies _ rfl _ _ _ rfl w.heap.size 47 j0 _ 1 24 Tryz.underlying71 hj hy0 hy1 hy2 rfl (by omega) _ _ css.flatten rfl hown0 ⟨w28.heap.size, 0, none⟩ 1 1 [.slice arr13 (nthL A k).length krr13] rfl rfl Blls3.news ?_ (by omega) ?_ ?_ ?_ _ rfl ?_
          · intro u hu; simp only [List.mem_cons, List.mem_nil_iff, or_false] at hu; rcases hu with rfl <;> rfl
          · unfold maxLen; (try simp only [List.length_append, List.length_cons, List.length_nil]); omega
          · (try simp only [List.length_append, List.length_cons, List.length_nil]); omega
          · exact hs.size
          intro gob capob w30 hown1 hgrow hat hlt_
          have hk_ := KeepD.owns hown0 hgrow (by decide)
          have ho := owns_onlyT hown0 hgrow
          replace hs := hs.grown hgrow hs.size (fun k hk => (hown0.lt k hk).1)
          replace Oob := OwnL.push RC.kept ho1 ho2 ho3 (x := (nthL A k)) rr13 (by simp) hown1 ho (by decide) (by decide)
          replace Bllevel := Bllevel.only ho (by decide)
          replace Blls := Blls.only ho (by decide)
          replace rp12 := rp12.onlyT PC.kept ho (by decide) (by decide)
          replace rr13 := rr13.onlyT RC.kept ho (by decide) (by decide)
          replace Ooa := Ooa.onlyT PC.kept ho (by decide) (by decide) (by decide)
          clear hk_ ho ho1 ho2 ho3 hown0 hown1 hgrow hat hlt_ Blls3
          by_cases q14 : rgt A k = true
          · obtain rfl : b5 = true := by rw [Hb5.out]; exact q14
            have q14H := Lib.hid q14
            clear q14
            go_wp2_with fail
            with_reducible refine (r8_chV_all (e := chE (nthL A k)) _ rr13 rfl).mono ?_
            rintro e w31 ⟨rfl, hb⟩
            replace hs := bStep hs hb
            replace Bllevel := Bllevel.mono hb
            replace Blls := Blls.mono hb
            replace Ooa := Ooa.mono PC.kept hb
            replace Oob := Oob.mono RC.kept hb
            replace rp12 := rowsJ PC.kept _ _ _ rp12 hb
            replace rr13 := rowsJ RC.kept _ _ _ rr13 hb
            clear hb
            obtain ⟨sg15, Hsg15⟩ : ∃ s : Int, s = chE (nthL A k) := ⟨_, rfl⟩
            rw [← Hsg15]
            replace Hsg15 := Lib.hid Hsg15
            by_cases q16 : sg15 = 0
            · have q16b : (sg15 == 0) = true := beq_iff_eq.2 (by omega)
              have q16n : (sg15 != 0) = false := bne_eq_false_iff_eq.2 (by omega)
              have q16H := Lib.hid q16
              clear q16
              go_wp2
              go_roundw
              case rel => exact ⟨k + 1, by omega, by go_num, (congrArg _ (show ((lenS A k : Nat) : Int) + (((nthF l k).length : Nat) : Int) = ((lenS A (k + 1) : Nat) : Int) from by show _ = ((lenS A k + (nthL A k).length : Nat) : Int); omega)), (congrArg _ (rgt_T q14H.out (Hsg15.out.symm.trans q16H.out))), hs, Bllevel, Blls, (by rw [baF_take HAE.out (show k < l.length by omega)]; exact Ooa), (by rw [baF_take HAE.out (show k < l.length by omega)]; exact Oob), (okF_next HF.out (by omega) q11H.out)⟩
              all_goals first | (simp [intOf]; done) | (simp [intOf]; omega)
            · have q16b : (sg15 == 0) = false := beq_eq_false_iff_ne.2 (by omega)
              have q16n : (sg15 != 0) = true := bne_iff_ne.2 (by omega)
              have q16H := Lib.hid q16
              clear q16
              go_wp2
              go_roundw
              case rel => exact ⟨k + 1, by omega, by go_num, (congrArg _ (show ((lenS A k : Nat) : Int) + (((nthF l k).length : Nat) : Int) = ((lenS A (k + 1) : Nat) : Int) from by show _ = ((lenS A k + (nthL A k).length : Nat) : Int); omega)), (congrArg _ (rgt_F2 (fun e_ => q16H.out (Hsg15.out.trans e_)))), hs, Bllevel, Blls, (by rw [baF_take HAE.out (show k < l.length by omega)]; exact Ooa), (by rw [baF_take HAE.out (show k < l.length by omega)]; exact Oob), (okF_next HF.out (by omega) q11H.out)⟩
              all_goals first | (simp [intOf]; done) | (simp [intOf]; omega)
          · obtain rfl : b5 = false := by rw [Hb5.out]; simpa using q14
            have q14H := Lib.hid q14
            clear q14
            go_wp2
            go_roundw
            case rel => exact ⟨k + 1, by omega, by go_num, (congrArg _ (show ((lenS A k : Nat) : Int) + (((nthF l k).length : Nat) : Int) = ((lenS A (k + 1) : Nat) : Int) from by show _ = ((lenS A k + (nthL A k).length : Nat) : Int); omega)), (congrArg _ (rgt_F1 q14H.out)), hs, Bllevel, Blls, (by rw [baF_take HAE.out (show k < l.length by omega)]; exact Ooa), (by rw [baF_take HAE.out (show k < l.length by omega)]; exact Oob), (okF_next HF.out (by omega) q11H.out)⟩
            all_goals first | (simp [intOf]; done) | (simp [intOf]; omega)
        · obtain rfl : b10 = false := by rw [Hb10.out]; simpa using q11
          have q11H := Lib.hid q11
          clear q11
          go_wp2
          go_ret
          exact ⟨rfl, hs⟩
    · have q6d : ((k : Int) < (l.length : Int)) = False := eq_false (by omega)
      obtain rfl : k = A.length := by omega
      rw [tkA_all] at Ooa Oob
      have hRa := Ooa.rows
      have hRb := Oob.rows
      clear Ooa Oob lta
      have HSZ := Lib.hid (szF HAE.out (fun i hi => (HF.out i hi).2))
      obtain ⟨aa, ca, rfl, ha1, ha2, -⟩ := hRa.toI.slice
      obtain ⟨ab, cb, rfl, hb1, hb2, -⟩ := hRb.toI.slice
      have q7 : ¬ (rgt A A.length = true) := HR.out
      obtain rfl : b5 = false := by rw [Hb5.out]; simpa using q7
      have q7H := Lib.hid q7
      clear q7
      have clevel_0 : wr.cell? ⟨w.heap.size, 0, none⟩ = some (.int .i64 n1) := Bllevel.at 0 rfl
      have clevel_1 : wr.cell? ⟨w.heap.size, 1, none⟩ = some (.int .i64 d1) := Bllevel.at 1 rfl
      have Llevel : w.heap.size < wr.heap.size := Bllevel.lt
      go_wp2_with fail
      clear clevel_0 clevel_1 Llevel
      with_reducible refine (l1_OfL _ O1.out HU1.out).mono ?_
      rintro e w25 ⟨_, rfl, h8, hb⟩
      obtain ⟨sh8, ah8, nh8, ch8, Ah8, Nh8, Ch8, rfl⟩ := h8.shape
      replace hs := bStep hs hb
      replace Bllevel := Bllevel.mono hb
      replace Blls := Blls.mono hb
      replace hRa := rowsLJ PC.kept _ _ _ hRa hb
      replace hRb := rowsLJ RC.kept _ _ _ hRb hb
      clear hb
      go_wp2_with fail
      with_reducible refine (al_Pool_all _ hRa h8 (sl.mono (by decide)) HSZ.out HW.out HO.out HW12.out).mono ?_
      rintro e w26 ⟨_, _, rfl, ho9, rfl, hb⟩
      obtain ⟨aho9, kho9, rfl, ho91, ho92, -⟩ := ho9.toI.slice
      replace hs := bStep hs hb
      replace Bllevel := Bllevel.mono hb
      replace Blls := Blls.mono hb
      replace h8 := h8.mono hb
      replace hRa := rowsLJ PC.kept _ _ _ hRa hb
      replace hRb := rowsLJ RC.kept _ _ _ hRb hb
      clear hb
      have clevel_0 : w26.cell? ⟨w.heap.size, 0, none⟩ = some (.int .i64 n1) := Bllevel.at 0 rfl
      have clevel_1 : w26.cell? ⟨w.heap.size, 1, none⟩ = some (.int .i64 d1) := Bllevel.at 1 rfl
      have Llevel : w.heap.size < w26.heap.size := Bllevel.lt
      go_wp2_with fail
      clear clevel_0 clevel_1 Llevel
      with_reducible refine (r1_OfL _ O1.out HU1.out).mono ?_
      rintro e w27 ⟨_, rfl, h10, hb⟩
      obtain ⟨sh10, ah10, nh10, ch10, Ah10, Nh10, Ch10, rfl⟩ := h10.shape
      replace hs := bStep hs hb
      replace Bllevel := Bllevel.mono hb
      replace Blls := Blls.mono hb
      replace h8 := h8.mono hb
      replace hRa := rowsLJ PC.kept _ _ _ hRa hb
      replace hRb := rowsLJ RC.kept _ _ _ hRb hb
      replace ho9 := rowsJ BC.kept _ _ _ ho9 hb
      clear hb
      go_wp2_with fail
      with_reducible refine (r8_Pool_all _ hRb h10 (sl.mono (by decide)) HSZ.out HW.out HO.out HW12.out).mono ?_
      rintro e w28 ⟨_, _, rfl, ho11, rfl, hb⟩
      obtain ⟨aho11, kho11, rfl, ho111, ho112, -⟩ := ho11.toI.slice
      replace hs := bStep hs hb
      replace Bllevel := Bllevel.mono hb
      replace Blls := Blls.mono hb
      replace h8 := h8.mono hb
      replace h10 := h10.mono hb
      replace hRa := rowsLJ PC.kept _ _ _ hRa hb
      replace hRb := rowsLJ RC.kept _ _ _ hRb hb
      replace ho9 := rowsJ BC.kept _ _ _ ho9 hb
      clear hb
      have q12b : (W == W) = true := beq_self_eq_true _
      have q12n : (W != W) = false := bne_self_eq_false _
      go_wp2_with fail
      with_reducible refine (sl_EqB _ ho9 ho11 (by omega)).mono ?_
      rintro e w29 ⟨rfl, hb⟩
      replace hs := bStep hs hb
      replace Bllevel := Bllevel.mono hb
      replace Blls := Blls.mono hb
      replace h8 := h8.mono hb
      replace h10 := h10.mono hb
      replace hRa := rowsLJ PC.kept _ _ _ hRa hb
      replace hRb := rowsLJ RC.kept _ _ _ hRb hb
      replace ho9 := rowsJ BC.kept _ _ _ ho9 hb
      replace ho11 := rowsJ BC.kept _ _ _ ho11 hb
      clear hb
      go_wp2
      go_ret
      exact ⟨rfl, hs⟩

set_option maxRecDepth 100000 in
set_option maxHeartbeats 16000000 in
theorem l8_Pools_m2 (v : Value) (l : LF) (n1 d1 : Int) (w : World) (hl : RowsI 1 (LRI 2 FC) w v l) (h1 : 1 ≤ l.length) (h2 : l.length ≤ 16) (hT : [(n1, d1)].all smF8 = true) (hlo : ∀ m ∈ l, ∀ x ∈ m, DOk x) (o1 : DOk (n1, d1)) (A : List (List Rat)) (hA : baF l = A) (la1 : A.length ≤ l.length) (la2 : l.length ≤ A.length) (lev : Rat) (hu1 : fracQ n1 d1 = lev) (sl : SzQ 1 lev) (W : Int) (O : List Bool) (hW : poolE lev A = W) (hO : poolO lev A = O) (lO : O.length ≤ 20) (hr0 : true = rgt A 0) (h12 : W = 0 → lenS A A.length ≤ 12) (hr : ¬ rgt A A.length = true) :
    Calls Tryz.prog 6 #[v, .agg #[.int .i64 n1, .int .i64 d1]] w (RetV w (.bool true)) := by
  obtain ⟨lb, lo, cap, rfl, hc1, hc2⟩ := hl.openL (by omega)
  have hs := Below.refl w.heap.size w
  have HL := Lib.hid hl
  have HT := Lib.hid hT
  have HLO := Lib.hid hlo
  have O1 := Lib.hid o1
  have HAE := Lib.hid hA
  have HU1 := Lib.hid hu1
  have HW := Lib.hid hW
  have HO := Lib.hid hO
  have HR0 := Lib.hid hr0
  have HW12 := Lib.hid h12
  have HR := Lib.hid hr
  clear hl hT hlo o1 hA hu1 hW hO hr0 h12 hr
  obtain ⟨i0, hi, hz0, hz1, hz2⟩ := info_parts slp_info
  obtain ⟨j0, hj, hy0, hy1, hy2⟩ := info_parts slr_info
  go_enter Tryz.func6, Tryz.ntmps6
  go_wp2_with fail
  refine Calls.abs ?_
  intro w1 hW
  have hG : Gr [] w w1 := by rw [hW]; exact (Gr.refl _ _).alloc
  have hbw : Below w.heap.size w w1 := hG.below0 hs.size
  have hk : KeepD w w1 := hG.keep True.intro
  have sz_w1 : w.heap.size ≤ w.heap.size := hs.size
  have Bllevel : Bx w1 (w.heap.size) 23 #[.int .i64 n1, .int .i64 d1] := by rw [hW]; exact (Bx.new0 _ _ _)
  replace hs := hs.trans hbw
  clear hW hG hk hbw
  have hz_w1 : w.heap.size < w1.heap.size := Bllevel.lt
  with_reducible refine (l8_awake _).mono ?_
  rintro e w2 ⟨rfl, hb⟩
  replace hs := bStep hs hb
  replace Bllevel := Bllevel.mono hb
  clear hb
  have q1 : ¬ (20 < l.length) := (by omega)
  have q1d : ((20 : Int) < (l.length : Int)) = False := eq_false (by omega)
  have clevel_0 : w2.cell? ⟨w.heap.size, 0, none⟩ = some (.int .i64 n1) := Bllevel.at 0 rfl
  have clevel_1 : w2.cell? ⟨w.heap.size, 1, none⟩ = some (.int .i64 d1) := Bllevel.at 1 rfl
  have Llevel : w.heap.size < w2.heap.size := Bllevel.lt
  go_wp2_with fail
  clear clevel_0 clevel_1 Llevel
  refine Calls.abs ?_
  intro w3 hW
  have hG : Gr [] w2 w3 := by rw [hW]; exact (Gr.refl _ _).alloc
  have hbw : Below w.heap.size w2 w3 := hG.below0 hs.size
  have hk : KeepD w2 w3 := hG.keep True.intro
  have sz_w3 : w.heap.size ≤ w2.heap.size := hs.size
  have nlevel_w3 : w.heap.size < w2.heap.size := Bllevel.lt
  have Blls : Bx w3 (w2.heap.size) 23 #[.int .i64 n1, .int .i64 d1] := by rw [hW]; exact (Bx.new0 _ _ _)
  replace hs := hs.trans hbw
  replace Bllevel := hG.bx Bllevel notMem0
  clear hW hG hk hbw
  have hz_w3 : w2.heap.size < w3.heap.size := Blls.lt
  with_reducible refine (l8_small8 _ [(n1, d1)] _ (rowsFt1 Blls)).mono ?_
  rintro e w4 ⟨rfl, hb⟩
  replace hs := bStep hs hb
  replace Bllevel := Bllevel.mono hb
  replace Blls := Blls.mono hb
  clear hb
  obtain ⟨b2, Hb2⟩ : ∃ b : Bool, b = [(n1, d1)].all smF8 := ⟨_, rfl⟩
  rw [← Hb2]
  replace Hb2 := Lib.hid Hb2
  have q3 : [(n1, d1)].all smF8 = true := HT.out
  obtain rfl : b2 = true := by rw [Hb2.out]; exact q3
  have q3H := Lib.hid q3
  clear q3
  have q4 : 1 ≤ l.length := (by omega)
  have q4d : ((1 : Int) ≤ (l.length : Int)) = True := eq_true (by omega)
  go_wp2
  go_loopw [5, 6, 7, 8, 41] (fun s5 s6 s7 s8 s41 wq => ∃ k : Nat, k ≤ l.length ∧ s41 = .int .i64 k ∧ s7 = .int .i64 (((lenS A k : Nat) : Int)) ∧ s8 = .bool (rgt A k) ∧ Below w.heap.size w wq ∧ Bx wq (w.heap.size) 23 #[.int .i64 n1, .int .i64 d1] ∧ Bx wq (w2.heap.size) 23 #[.int .i64 n1, .int .i64 d1] ∧ OwnL w.heap.size 46 3 29 PC wq s5 (tkA A k) ∧ OwnL w.heap.size 47 3 36 RC wq s6 (tkA A k) ∧ (∀ i, i < k → (nthF l i).length ≤ 70 ∧ (nthF l i).all smF24 = true)) (fun s5 s6 s7 s8 s41 _ => l.length - (intOf s41).toNat)
  case atStart => exact ⟨0, Nat.zero_le _, rfl, rfl, (congrArg _ ((decide_eq_true (by omega)).trans HR0.out)), hs, Bllevel, Blls, OwnR.nil _ _ _ _ _, OwnR.nil _ _ _ _ _, (fun i h_ => absurd h_ (Nat.not_lt_zero _))⟩
  case round =>
    clear Bllevel Blls hs
    obtain ⟨k, k_le, rfl, rfl, rfl, hs, Bllevel, Blls, Ooa, Oob, HF⟩ := hrel
    replace HF := Lib.hid HF
    obtain ⟨b5, Hb5⟩ : ∃ b : Bool, b = rgt A k := ⟨_, rfl⟩
    rw [← Hb5]
    replace Hb5 := Lib.hid Hb5
    have lta := tkA_len A k
    have lnk := lenF_le HAE.out HF.out k_le
    have lnj1 : k < l.length → (nthL A k).length ≤ (nthF l k).length := fun h_ => by rw [← baF_at HAE.out h_, List.length_map]; exact Nat.le_refl _
    have lnj2 : k < l.length → (nthF l k).length ≤ (nthL A k).length := fun h_ => by rw [← baF_at HAE.out h_, List.length_map]; exact Nat.le_refl _
    by_cases q6 : k < l.length
    · have q6d : ((k : Int) < (l.length : Int)) = True := eq_true (by omega)
      have BI7a : k < l.length := by omega
      have BI7b : ((k : Int) : Int) < (l.length : Int) := by omega
      obtain ⟨ao8, ko8, Eo8, -, -, ho8, lo8⟩ := rowLI_at HL.out (nthF_some (show k < l.length by omega))
      replace Eo8 := cellK Eo8 hs
      replace ho8 := Lib.hid ho8
      by_cases q9 : 70 < (nthF l k).length
      · have q9d : ((70 : Int) < ((nthF l k).length : Int)) = True := eq_true (by omega)
        go_wp2
        clear lo8 Eo8
        go_ret
        exact ⟨rfl, hs⟩
      · have q9d : ((70 : Int) < ((nthF l k).length : Int)) = False := eq_false (by omega)
        go_wp2_with fail
        clear lo8 Eo8
        with_reducible refine (l8_small24 _ (nthF l k) _ (ho8.out.mono FC.kept hs)).mono ?_
        rintro e w25 ⟨rfl, hb⟩
        replace hs := bStep hs hb
        replace Bllevel := Bllevel.mono hb
        replace Blls := Blls.mono hb
        replace Ooa := Ooa.mono PC.kept hb
        replace Oob := Oob.mono RC.kept hb
        clear hb
        obtain ⟨b10, Hb10⟩ : ∃ b : Bool, b = (nthF l k).all smF24 := ⟨_, rfl⟩
        rw [← Hb10]
        replace Hb10 := Lib.hid Hb10
        by_cases q11 : (nthF l k).all smF24 = true
        · obtain rfl : b10 = true := by rw [Hb10.out]; exact q11
          have q11H := Lib.hid q11
          clear q11
          go_wp2_with fail
          with_reducible refine (l8_list _ (nthF l k) _ (ho8.out.mono FC.kept hs) (by omega) (HLO.out _ (nthF_mem (show k < l.length by omega)))).mono ?_
          rintro e w26 ⟨_, _, rfl, rp12, rr13, hb⟩
          rw [baF_at HAE.out (show k < l.length by omega)] at rp12
          obtain ⟨arp12, krp12, rfl, rp121, rp122, -⟩ := rp12.toI.slice
          rw [baF_at HAE.out (show k < l.length by omega)] at rr13
          obtain ⟨arr13, krr13, rfl, rr131, rr132, -⟩ := rr13.toI.slice
          replace hs := bStep hs hb
          replace Bllevel := Bllevel.mono hb
          replace Blls := Blls.mono hb
          replace Ooa := Ooa.mono PC.kept hb
          replace Oob := Oob.mono RC.kept hb
          clear hb
          go_wp2_with (at_builtin; refine wpList.stop ?_)
          refine ⟨?_⟩
          refine wpList.abs ?_
          intro w27 hW
          have hG : Gr [] w26 w27 := by rw [hW]; exact (Gr.refl _ _).alloc
          have hbw : Below w.heap.size w26 w27 := hG.below0 hs.size
          have hk : KeepD w26 w27 := hG.keep True.intro
          have sz_w27 : w.heap.size ≤ w26.heap.size := hs.size
          have nlevel_w27 : w.heap.size < w26.heap.size := Bllevel.lt
          have nls_w27 : w2.heap.size < w26.heap.size := Blls.lt
          have Blls2 : Bx w27 (w26.heap.size) 46 #[.slice arp12 (nthL A k).length krp12] := by rw [hW]; exact (Bx.new0 _ _ _)
          replace hs := hs.trans hbw
          replace rp12 := rowsJ PC.kept _ _ _ rp12 (hG.below0 (Nat.le_refl _))
          replace rr13 := rowsJ RC.kept _ _ _ rr13 (hG.below0 (Nat.le_refl _))
          replace Bllevel := hG.bx Bllevel notMem0
          replace Blls := hG.bx Blls notMem0
          replace Ooa := Ooa.mono PC.kept (hG.below0 (Nat.le_refl _))
          replace Oob := Oob.mono RC.kept (hG.below0 (Nat.le_refl _))
          clear hW hG hk hbw
          have hz_w27 : w26.heap.size < w27.heap.size := Blls2.lt
          obtain ⟨css, ho1, ho2, ho3, hown0⟩ := Ooa
          refine wpList_append_lies _ rfl _ _ _ rfl w.heap.size 46 i0 _ 1 24 Tryz.underlying70 hi hz0 hz1 hz2 rfl (by omega) _ _ css.flatten rfl hown0 ⟨w26.heap.size, 0, none⟩ 1 1 [.slice arp12 (nthL A k).length krp12] rfl rfl Blls2.news ?_ (by omega) ?_ ?_ ?_ _ rfl ?_
          · intro u hu; simp only [List.mem_cons, List.mem_nil_iff, or_false] at hu; rcases hu with rfl <;> rfl
          · unfold maxLen; (try simp only [List.length_append, List.length_cons, List.length_nil]); omega
          · (try simp only [List.length_append, List.length_cons, List.length_nil]); omega
          · exact hs.size
          intro goa capoa w28 hown1 hgrow hat hlt_
          have hk_ := KeepD.owns hown0 hgrow (by decide)
          have ho := owns_onlyT hown0 hgrow
          replace hs := hs.grown hgrow hs.size (fun k hk => (hown0.lt k hk).1)
          replace Ooa := OwnL.push PC.kept ho1 ho2 ho3 (x := (nthL A k)) rp12 (by simp) hown1 ho (by decide) (by decide)
          replace Bllevel := Bllevel.only ho (by decide)
          replace Blls := Blls.only ho (by decide)
          replace rp12 := rp12.onlyT PC.kept ho (by decide) (by decide)
          replace rr13 := rr13.onlyT RC.kept ho (by decide) (by decide)
          replace Oob := Oob.onlyT RC.kept ho (by decide) (by decide) (by decide)
          clear hk_ ho ho1 ho2 ho3 hown0 hown1 hgrow hat hlt_ Blls2
          go_wp2_with (at_builtin; refine wpList.stop ?_)
          refine ⟨?_⟩
          refine wpList.abs ?_
          intro w29 hW
          have hG : Gr [] w28 w29 := by rw [hW]; exact (Gr.refl _ _).alloc
          have hbw : Below w.heap.size w28 w29 := hG.below0 hs.size
          have hk : KeepD w28 w29 := hG.keep True.intro
          have sz_w29 : w.heap.size ≤ w28.heap.size := hs.size
          have nlevel_w29 : w.heap.size < w28.heap.size := Bllevel.lt
          have nls_w29 : w2.heap.size < w28.heap.size := Blls.lt
          have Blls3 : Bx w29 (w28.heap.size) 47 #[.slice arr13 (nthL A k).length krr13] := by rw [hW]; exact (Bx.new0 _ _ _)
          replace hs := hs.trans hbw
          replace rp12 := rowsJ PC.kept _ _ _ rp12 (hG.below0 (Nat.le_refl _))
          replace rr13 := rowsJ RC.kept _ _ _ rr13 (hG.below0 (Nat.le_refl _))
          replace Bllevel := hG.bx Bllevel notMem0
          replace Blls := hG.bx Blls notMem0
          replace Ooa := Ooa.mono PC.kept (hG.below0 (Nat.le_refl _))
          replace Oob := Oob.mono RC.kept (hG.below0 (Nat.le_refl _))
          clear hW hG hk hbw
          have hz_w29 : w28.heap.size < w29.heap.size := Blls3.lt
          obtain ⟨css, ho1, ho2, ho3, hown0⟩ := Oob
          refine wpList_append_lies _ rfl _ _ _ rfl w.heap.size 47 j0 _ 1 24 Tryz.underlying71 hj hy0 hy1 hy2 rfl (by omega) _ _ css.flatten rfl hown0 ⟨w28.heap.size, 0, none⟩ 1 1 [.slice arr13 (nthL A k).length krr13] rfl rfl Blls3.news ?_ (by omega) ?_ ?_ ?_ _ rfl ?_
          · intro u hu; simp only [List.mem_cons, List.mem_nil_iff, or_false] at hu; rcases hu with rfl <;> rfl
          · unfold maxLen; (try simp only [List.length_append, List.length_cons, List.length_nil]); omega
          · (try simp only [List.length_append, List.length_cons, List.length_nil]); omega
          · exact hs.size
          intro gob capob w30 hown1 hgrow hat hlt_
          have hk_ := KeepD.owns hown0 hgrow (by decide)
          have ho := owns_onlyT hown0 hgrow
          replace hs := hs.grown hgrow hs.size (fun k hk => (hown0.lt k hk).1)
          replace Oob := OwnL.push RC.kept ho1 ho2 ho3 (x := (nthL A k)) rr13 (by simp) hown1 ho (by decide) (by decide)
          replace Bllevel := Bllevel.only ho (by decide)
          replace Blls := Blls.only ho (by decide)
          replace rp12 := rp12.onlyT PC.kept ho (by decide) (by decide)
          replace rr13 := rr13.onlyT RC.kept ho (by decide) (by decide)
          replace Ooa := Ooa.onlyT PC.kept ho (by decide) (by decide) (by decide)
          clear hk_ ho ho1 ho2 ho3 hown0 hown1 hgrow hat hlt_ Blls3
          by_cases q14 : rgt A k = true
          · obtain rfl : b5 = true := by rw [Hb5.out]; exact q14
            have q14H := Lib.hid q14
            clear q14
            go_wp2_with fail
            with_reducible refine (r8_chV_all (e := chE (nthL A k)) _ rr13 rfl).mono ?_
            rintro e w31 ⟨rfl, hb⟩
            replace hs := bStep hs hb
            replace Bllevel := Bllevel.mono hb
            replace Blls := Blls.mono hb
            replace Ooa := Ooa.mono PC.kept hb
            replace Oob := Oob.mono RC.kept hb
            replace rp12 := rowsJ PC.kept _ _ _ rp12 hb
            replace rr13 := rowsJ RC.kept _ _ _ rr13 hb
            clear hb
            obtain ⟨sg15, Hsg15⟩ : ∃ s : Int, s = chE (nthL A k) := ⟨_, rfl⟩
            rw [← Hsg15]
            replace Hsg15 := Lib.hid Hsg15
            by_cases q16 : sg15 = 0
            · have q16b : (sg15 == 0) = true := beq_iff_eq.2 (by omega)
              have q16n : (sg15 != 0) = false := bne_eq_false_iff_eq.2 (by omega)
              have q16H := Lib.hid q16
              clear q16
              go_wp2
              go_roundw
              case rel => exact ⟨k + 1, by omega, by go_num, (congrArg _ (show ((lenS A k : Nat) : Int) + (((nthF l k).length : Nat) : Int) = ((lenS A (k + 1) : Nat) : Int) from by show _ = ((lenS A k + (nthL A k).length : Nat) : Int); omega)), (congrArg _ (rgt_T q14H.out (Hsg15.out.symm.trans q16H.out))), hs, Bllevel, Blls, (by rw [baF_take HAE.out (show k < l.length by omega)]; exact Ooa), (by rw [baF_take HAE.out (show k < l.length by omega)]; exact Oob), (okF_next HF.out (by omega) q11H.out)⟩
              all_goals first | (simp [intOf]; done) | (simp [intOf]; omega)
            · have q16b : (sg15 == 0) = false := beq_eq_false_iff_ne.2 (by omega)
              have q16n : (sg15 != 0) = true := bne_iff_ne.2 (by omega)
              have q16H := Lib.hid q16
              clear q16
              go_wp2
              go_roundw
              case rel => exact ⟨k + 1, by omega, by go_num, (congrArg _ (show ((lenS A k : Nat) : Int) + (((nthF l k).length : Nat) : Int) = ((lenS A (k + 1) : Nat) : Int) from by show _ = ((lenS A k + (nthL A k).length : Nat) : Int); omega)), (congrArg _ (rgt_F2 (fun e_ => q16H.out (Hsg15.out.trans e_)))), hs, Bllevel, Blls, (by rw [baF_take HAE.out (show k < l.length by omega)]; exact Ooa), (by rw [baF_take HAE.out (show k < l.length by omega)]; exact Oob), (okF_next HF.out (by omega) q11H.out)⟩
              all_goals first | (simp [intOf]; done) | (simp [intOf]; omega)
          · obtain rfl : b5 = false := by rw [Hb5.out]; simpa using q14
            have q14H := Lib.hid q14
            clear q14
            go_wp2
            go_roundw
            case rel => exact ⟨k + 1, by omega, by go_num, (congrArg _ (show ((lenS A k : Nat) : Int) + (((nthF l k).length : Nat) : Int) = ((lenS A (k + 1) : Nat) : Int) from by show _ = ((lenS A k + (nthL A k).length : Nat) : Int); omega)), (congrArg _ (rgt_F1 q14H.out)), hs, Bllevel, Blls, (by rw [baF_take HAE.out (show k < l.length by omega)]; exact Ooa), (by rw [baF_take HAE.out (show k < l.length by omega)]; exact Oob), (okF_next HF.out (by omega) q11H.out)⟩
            all_goals first | (simp [intOf]; done) | (simp [intOf]; omega)
        · obtain rfl : b10 = false := by rw [Hb10.out]; simpa using q11
          have q11H := Lib.hid q11
          clear q11
          go_wp2
          go_ret
          exact ⟨rfl, hs⟩
    · have q6d : ((k : Int) < (l.length : Int)) = False := eq_false (by omega)
      obtain rfl : k = A.length := by omega
      rw [tkA_all] at Ooa Oob
      have hRa := Ooa.rows
      have hRb := Oob.rows
      clear Ooa Oob lta
      have HSZ := Lib.hid (szF HAE.out (fun i hi => (HF.out i hi).2))
      obtain ⟨aa, ca, rfl, ha1, ha2, -⟩ := hRa.toI.slice
      obtain ⟨ab, cb, rfl, hb1, hb2, -⟩ := hRb.toI.slice
      have q7 : ¬ (rgt A A.length = true) := HR.out
      obtain rfl : b5 = false := by rw [Hb5.out]; simpa using q7
      have q7H := Lib.hid q7
      clear q7
      have clevel_0 : wr.cell? ⟨w.heap.size, 0, none⟩ = some (.int .i64 n1) := Bllevel.at 0 rfl
      have clevel_1 : wr.cell? ⟨w.heap.size, 1, none⟩ = some (.int .i64 d1) := Bllevel.at 1 rfl
      have Llevel : w.heap.size < wr.heap.size := Bllevel.lt
      go_wp2_with fail
      clear clevel_0 clevel_1 Llevel
      with_reducible refine (l1_OfL _ O1.out HU1.out).mono ?_
      rintro e w25 ⟨_, rfl, h8, hb⟩
      obtain ⟨sh8, ah8, nh8, ch8, Ah8, Nh8, Ch8, rfl⟩ := h8.shape
      replace hs := bStep hs hb
      replace Bllevel := Bllevel.mono hb
      replace Blls := Blls.mono hb
      replace hRa := rowsLJ PC.kept _ _ _ hRa hb
      replace hRb := rowsLJ RC.kept _ _ _ hRb hb
      clear hb
      go_wp2_with fail
      with_reducible refine (al_Pool_all _ hRa h8 (sl.mono (by decide)) HSZ.out HW.out HO.out HW12.out).mono ?_
      rintro e w26 ⟨_, _, rfl, ho9, rfl, hb⟩
      obtain ⟨aho9, kho9, rfl, ho91, ho92, -⟩ := ho9.toI.slice
      replace hs := bStep hs hb
      replace Bllevel := Bllevel.mono hb
      replace Blls := Blls.mono hb
      replace h8 := h8.mono hb
      replace hRa := rowsLJ PC.kept _ _ _ hRa hb
      replace hRb := rowsLJ RC.kept _ _ _ hRb hb
      clear hb
      have clevel_0 : w26.cell? ⟨w.heap.size, 0, none⟩ = some (.int .i64 n1) := Bllevel.at 0 rfl
      have clevel_1 : w26.cell? ⟨w.heap.size, 1, none⟩ = some (.int .i64 d1) := Bllevel.at 1 rfl
      have Llevel : w.heap.size < w26.heap.size := Bllevel.lt
      go_wp2_with fail
      clear clevel_0 clevel_1 Llevel
      with_reducible refine (r1_OfL _ O1.out HU1.out).mono ?_
      rintro e w27 ⟨_, rfl, h10, hb⟩
      obtain ⟨sh10, ah10, nh10, ch10, Ah10, Nh10, Ch10, rfl⟩ := h10.shape
      replace hs := bStep hs hb
      replace Bllevel := Bllevel.mono hb
      replace Blls := Blls.mono hb
      replace h8 := h8.mono hb
      replace hRa := rowsLJ PC.kept _ _ _ hRa hb
      replace hRb := rowsLJ RC.kept _ _ _ hRb hb
      replace ho9 := rowsJ BC.kept _ _ _ ho9 hb
      clear hb
      go_wp2_with fail
      with_reducible refine (r8_Pool_all _ hRb h10 (sl.mono (by decide)) HSZ.out HW.out HO.out HW12.out).mono ?_
      rintro e w28 ⟨_, _, rfl, ho11, rfl, hb⟩
      obtain ⟨aho11, kho11, rfl, ho111, ho112, -⟩ := ho11.toI.slice
      replace hs := bStep hs hb
      replace Bllevel := Bllevel.mono hb
      replace Blls := Blls.mono hb
      replace h8 := h8.mono hb
      replace h10 := h10.mono hb
      replace hRa := rowsLJ PC.kept _ _ _ hRa hb
      replace hRb := rowsLJ RC.kept _ _ _ hRb hb
      replace ho9 := rowsJ BC.kept _ _ _ ho9 hb
      clear hb
      have q12b : (W == W) = true := beq_self_eq_true _
      have q12n : (W != W) = false := bne_self_eq_false _
      go_wp2_with fail
      with_reducible refine (sl_EqB _ ho9 ho11 (by omega)).mono ?_
      rintro e w29 ⟨rfl, hb⟩
      replace hs := bStep hs hb
      replace Bllevel := Bllevel.mono hb
      replace Blls := Blls.mono hb
      replace h8 := h8.mono hb
      replace h10 := h10.mono hb
      replace hRa := rowsLJ PC.kept _ _ _ hRa hb
      replace hRb := rowsLJ RC.kept _ _ _ hRb hb
      replace ho9 := rowsJ BC.kept _ _ _ ho9 hb
      replace ho11 := rowsJ BC.kept _ _ _ ho11 hb
      clear hb
      go_wp2
      go_ret
      exact ⟨rfl, hs⟩

set_option maxRecDepth 100000 in
set_option maxHeartbeats 16000000 in
theorem l8_Pools_m3 (v : Value) (l : LF) (n1 d1 : Int) (w : World) (hl : RowsI 1 (LRI 2 FC) w v l) (h1 : 1 ≤ l.length) (h2 : l.length ≤ 16) (hT : [(n1, d1)].all smF8 = true) (hlo : ∀ m ∈ l, ∀ x ∈ m, DOk x) (o1 : DOk (n1, d1)) (A : List (List Rat)) (hA : baF l = A) (la1 : A.length ≤ l.length) (la2 : l.length ≤ A.length) (lev : Rat) (hu1 : fracQ n1 d1 = lev) (sl : SzQ 1 lev) (W : Int) (O : List Bool) (hW : poolE lev A = W) (hO : poolO lev A = O) (lO : O.length ≤ 20) (hr0 : true = rgt A 0) (h12 : W = 0 → lenS A A.length ≤ 12) (hr : rgt A A.length = true) (h3 : 64 < lenS A A.length) :
    Calls Tryz.prog 6 #[v, .agg #[.int .i64 n1, .int .i64 d1]] w (RetV w (.bool true)) := by
  obtain ⟨lb, lo, cap, rfl, hc1, hc2⟩ := hl.openL (by omega)
  have hs := Below.refl w.heap.size w
  have HL := Lib.hid hl
  have HT := Lib.hid hT
  have HLO := Lib.hid hlo
  have O1 := Lib.hid o1
  have HAE := Lib.hid hA
  have HU1 := Lib.hid hu1
  have HW := Lib.hid hW
  have HO := Lib.hid hO
  have HR0 := Lib.hid hr0
  have HW12 := Lib.hid h12
  have HR := Lib.hid hr
  clear hl hT hlo o1 hA hu1 hW hO hr0 h12 hr
  obtain ⟨i0, hi, hz0, hz1, hz2⟩ := info_parts slp_info
  obtain ⟨j0, hj, hy0, hy1, hy2⟩ := info_parts slr_info
  go_enter Tryz.func6, Tryz.ntmps6
  go_wp2_with fail
  refine Calls.abs ?_
  intro w1 hW
  have hG : Gr [] w w1 := by rw [hW]; exact (Gr.refl _ _).alloc
  have hbw : Below w.heap.size w w1 := hG.below0 hs.size
  have hk : KeepD w w1 := hG.keep True.intro
  have sz_w1 : w.heap.size ≤ w.heap.size := hs.size
  have Bllevel : Bx w1 (w.heap.size) 23 #[.int .i64 n1, .int .i64 d1] := by rw [hW]; exact (Bx.new0 _ _ _)
  replace hs := hs.trans hbw
  clear hW hG hk hbw
  have hz_w1 : w.heap.size < w1.heap.size := Bllevel.lt
  with_reducible refine (l8_awake _).mono ?_
  rintro e w2 ⟨rfl, hb⟩
  replace hs := bStep hs hb
  replace Bllevel := Bllevel.mono hb
  clear hb
  have q1 : ¬ (20 < l.length) := (by omega)
  have q1d : ((20 : Int) < (l.length : Int)) = False := eq_false (by omega)
  have clevel_0 : w2.cell? ⟨w.heap.size, 0, none⟩ = some (.int .i64 n1) := Bllevel.at 0 rfl
  have clevel_1 : w2.cell? ⟨w.heap.size, 1, none⟩ = some (.int .i64 d1) := Bllevel.at 1 rfl
  have Llevel : w.heap.size < w2.heap.size := Bllevel.lt
  go_wp2_with fail
  clear clevel_0 clevel_1 Llevel
  refine Calls.abs ?_
  intro w3 hW
  have hG : Gr [] w2 w3 := by rw [hW]; exact (Gr.refl _ _).alloc
  have hbw : Below w.heap.size w2 w3 := hG.below0 hs.size
  have hk : KeepD w2 w3 := hG.keep True.intro
  have sz_w3 : w.heap.size ≤ w2.heap.size := hs.size
  have nlevel_w3 : w.heap.size < w2.heap.size := Bllevel.lt
  have Blls : Bx w3 (w2.heap.size) 23 #[.int .i64 n1, .int .i64 d1] := by rw [hW]; exact (Bx.new0 _ _ _)
  replace hs := hs.trans hbw
  replace Bllevel := hG.bx Bllevel notMem0
  clear hW hG hk hbw
  have hz_w3 : w2.heap.size < w3.heap.size := Blls.lt
  with_reducible refine (l8_small8 _ [(n1, d1)] _ (rowsFt1 Blls)).mono ?_
  rintro e w4 ⟨rfl, hb⟩
  replace hs := bStep hs hb
  replace Bllevel := Bllevel.mono hb
  replace Blls := Blls.mono hb
  clear hb
  obtain ⟨b2, Hb2⟩ : ∃ b : Bool, b = [(n1, d1)].all smF8 := ⟨_, rfl⟩
  rw [← Hb2]
  replace Hb2 := Lib.hid Hb2
  have q3 : [(n1, d1)].all smF8 = true := HT.out
  obtain rfl : b2 = true := by rw [Hb2.out]; exact q3
  have q3H := Lib.hid q3
  clear q3
  have q4 : 1 ≤ l.length := (by omega)
  have q4d : ((1 : Int) ≤ (l.length : Int)) = True := eq_true (by omega)
  go_wp2
  go_loopw [5, 6, 7, 8, 41] (fun s5 s6 s7 s8 s41 wq => ∃ k : Nat, k ≤ l.length ∧ s41 = .int .i64 k ∧ s7 = .int .i64 (((lenS A k : Nat) : Int)) ∧ s8 = .bool (rgt A k) ∧ Below w.heap.size w wq ∧ Bx wq (w.heap.size) 23 #[.int .i64 n1, .int .i64 d1] ∧ Bx wq (w2.heap.size) 23 #[.int .i64 n1, .int .i64 d1] ∧ OwnL w.heap.size 46 3 29 PC wq s5 (tkA A k) ∧ OwnL w.heap.size 47 3 36 RC wq s6 (tkA A k) ∧ (∀ i, i < k → (nthF l i).length ≤ 70 ∧ (nthF l i).all smF24 = true)) (fun s5 s6 s7 s8 s41 _ => l.length - (intOf s41).toNat)
  case atStart => exact ⟨0, Nat.zero_le _, rfl, rfl, (congrArg _ ((decide_eq_true (by omega)).trans HR0.out)), hs, Bllevel, Blls, OwnR.nil _ _ _ _ _, OwnR.nil _ _ _ _ _, (fun i h_ => absurd h_ (Nat.not_lt_zero _))⟩
  case round =>
    clear Bllevel Blls hs
    obtain ⟨k, k_le, rfl, rfl, rfl, hs, Bllevel, Blls, Ooa, Oob, HF⟩ := hrel
    replace HF := Lib.hid HF
    obtain ⟨b5, Hb5⟩ : ∃ b : Bool, b = rgt A k := ⟨_, rfl⟩
    rw [← Hb5]
    replace Hb5 := Lib.hid Hb5
    have lta := tkA_len A k
    have lnk := lenF_le HAE.out HF.out k_le
    have lnj1 : k < l.length → (nthL A k).length ≤ (nthF l k).length := fun h_ => by rw [← baF_at HAE.out h_, List.length_map]; exact Nat.le_refl _
    have lnj2 : k < l.length → (nthF l k).length ≤ (nthL A k).length := fun h_ => by rw [← baF_at HAE.out h_, List.length_map]; exact Nat.le_refl _
    by_cases q6 : k < l.length
    · have q6d : ((k : Int) < (l.length : Int)) = True := eq_true (by omega)
      have BI7a : k < l.length := by omega
      have BI7b : ((k : Int) : Int) < (l.length : Int) := by omega
      obtain ⟨ao8, ko8, Eo8, -, -, ho8, lo8⟩ := rowLI_at HL.out (nthF_some (show k < l.length by omega))
      replace Eo8 := cellK Eo8 hs
      replace ho8 := Lib.hid ho8
      by_cases q9 : 70 < (nthF l k).length
      · have q9d : ((70 : Int) < ((nthF l k).length : Int)) = True := eq_true (by omega)
        go_wp2
        clear lo8 Eo8
        go_ret
        exact ⟨rfl, hs⟩
      · have q9d : ((70 : Int) < ((nthF l k).length : Int)) = False := eq_false (by omega)
        go_wp2_with fail
        clear lo8 Eo8
        with_reducible refine (l8_small24 _ (nthF l k) _ (ho8.out.mono FC.kept hs)).mono ?_
        rintro e w25 ⟨rfl, hb⟩
        replace hs := bStep hs hb
        replace Bllevel := Bllevel.mono hb
        replace Blls := Blls.mono hb
        replace Ooa := Ooa.mono PC.kept hb
        replace Oob := Oob.mono RC.kept hb
        clear hb
        obtain ⟨b10, Hb10⟩ : ∃ b : Bool, b = (nthF l k).all smF24 := ⟨_, rfl⟩
        rw [← Hb10]
        replace Hb10 := Lib.hid Hb10
        by_cases q11 : (nthF l k).all smF24 = true
        · obtain rfl : b10 = true := by rw [Hb10.out]; exact q11
          have q11H := Lib.hid q11
          clear q11
          go_wp2_with fail
          with_reducible refine (l8_list _ (nthF l k) _ (ho8.out.mono FC.kept hs) (by omega) (HLO.out _ (nthF_mem (show k < l.length by omega)))).mono ?_
          rintro e w26 ⟨_, _, rfl, rp12, rr13, hb⟩
          rw [baF_at HAE.out (show k < l.length by omega)] at rp12
          obtain ⟨arp12, krp12, rfl, rp121, rp122, -⟩ := rp12.toI.slice
          rw [baF_at HAE.out (show k < l.length by omega)] at rr13
          obtain ⟨arr13, krr13, rfl, rr131, rr132, -⟩ := rr13.toI.slice
          replace hs := bStep hs hb
          replace Bllevel := Bllevel.mono hb
          replace Blls := Blls.mono hb
          replace Ooa := Ooa.mono PC.kept hb
          replace Oob := Oob.mono RC.kept hb
          clear hb
          go_wp2_with (at_builtin; refine wpList.stop ?_)
          refine ⟨?_⟩
          refine wpList.abs ?_
          intro w27 hW
          have hG : Gr [] w26 w27 := by rw [hW]; exact (Gr.refl _ _).alloc
          have hbw : Below w.heap.size w26 w27 := hG.below0 hs.size
          have hk : KeepD w26 w27 := hG.keep True.intro
          have sz_w27 : w.heap.size ≤ w26.heap.size := hs.size
          have nlevel_w27 : w.heap.size < w26.heap.size := Bllevel.lt
          have nls_w27 : w2.heap.size < w26.heap.size := Blls.lt
          have Blls2 : Bx w27 (w26.heap.size) 46 #[.slice arp12 (nthL A k).length krp12] := by rw [hW]; exact (Bx.new0 _ _ _)
          replace hs := hs.trans hbw
          replace rp12 := rowsJ PC.kept _ _ _ rp12 (hG.below0 (Nat.le_refl _))
          replace rr13 := rowsJ RC.kept _ _ _ rr13 (hG.below0 (Nat.le_refl _))
          replace Bllevel := hG.bx Bllevel notMem0
          replace Blls := hG.bx Blls notMem0
          replace Ooa := Ooa.mono PC.kept (hG.below0 (Nat.le_refl _))
          replace Oob := Oob.mono RC.kept (hG.below0 (Nat.le_refl _))
          clear hW hG hk hbw
          have hz_w27 : w26.heap.size < w27.heap.size := Blls2.lt
          obtain ⟨css, ho1, ho2, ho3, hown0⟩ := Ooa
          refine wpList_append_lies _ rfl _ _ _ rfl w.heap.size 46 i0 _ 1 24 Tryz.underlying70 hi hz0 hz1 hz2 rfl (by omega) _ _ css.flatten rfl hown0 ⟨w26.heap.size, 0, none⟩ 1 1 [.slice arp12 (nthL A k).length krp12] rfl rfl Blls2.news ?_ (by omega) ?_ ?_ ?_ _ rfl ?_
          · intro u hu; simp only [List.mem_cons, List.mem_nil_iff, or_false] at hu; rcases hu with rfl <;> rfl
          · unfold maxLen; (try simp only [List.length_append, List.length_cons, List.length_nil]); omega
          · (try simp only [List.length_append, List.length_cons, List.length_nil]); omega
          · exact hs.size
          intro goa capoa w28 hown1 hgrow hat hlt_
          have hk_ := KeepD.owns hown0 hgrow (by decide)
          have ho := owns_onlyT hown0 hgrow
          replace hs := hs.grown hgrow hs.size (fun k hk => (hown0.lt k hk).1)
          replace Ooa := OwnL.push PC.kept ho1 ho2 ho3 (x := (nthL A k)) rp12 (by simp) hown1 ho (by decide) (by decide)
          replace Bllevel := Bllevel.only ho (by decide)
          replace Blls := Blls.only ho (by decide)
          replace rp12 := rp12.onlyT PC.kept ho (by decide) (by decide)
          replace rr13 := rr13.onlyT RC.kept ho (by decide) (by decide)
          replace Oob := Oob.onlyT RC.kept ho (by decide) (by decide) (by decide)
          clear hk_ ho ho1 ho2 ho3 hown0 hown1 hgrow hat hlt_ Blls2
          go_wp2_with (at_builtin; refine wpList.stop ?_)
          refine ⟨?_⟩
          refine wpList.abs ?_
          intro w29 hW
          have hG : Gr [] w28 w29 := by rw [hW]; exact (Gr.refl _ _).alloc
          have hbw : Below w.heap.size w28 w29 := hG.below0 hs.size
          have hk : KeepD w28 w29 := hG.keep True.intro
          have sz_w29 : w.heap.size ≤ w28.heap.size := hs.size
          have nlevel_w29 : w.heap.size < w28.heap.size := Bllevel.lt
          have nls_w29 : w2.heap.size < w28.heap.size := Blls.lt
          have Blls3 : Bx w29 (w28.heap.size) 47 #[.slice arr13 (nthL A k).length krr13] := by rw [hW]; exact (Bx.new0 _ _ _)
          replace hs := hs.trans hbw
          replace rp12 := rowsJ PC.kept _ _ _ rp12 (hG.below0 (Nat.le_refl _))
          replace rr13 := rowsJ RC.kept _ _ _ rr13 (hG.below0 (Nat.le_refl _))
          replace Bllevel := hG.bx Bllevel notMem0
          replace Blls := hG.bx Blls notMem0
          replace Ooa := Ooa.mono PC.kept (hG.below0 (Nat.le_refl _))
          replace Oob := Oob.mono RC.kept (hG.below0 (Nat.le_refl _))
          clear hW hG hk hbw
          have hz_w29 : w28.heap.size < w29.heap.size := Blls3.lt
          obtain ⟨css, ho1, ho2, ho3, hown0⟩ := Oob
          refine wpList_append_lies _ rfl _ _ _ rfl w.heap.size 47 j0 _ 1 24 Tryz.underlying71 hj hy0 hy1 hy2 rfl (by omega) _ _ css.flatten rfl hown0 ⟨w28.heap.size, 0, none⟩ 1 1 [.slice arr13 (nthL A k).length krr13] rfl rfl Blls3.news ?_ (by omega) ?_ ?_ ?_ _ rfl ?_
          · intro u hu; simp only [List.mem_cons, List.mem_nil_iff, or_false] at hu; rcases hu with rfl <;> rfl
          · unfold maxLen; (try simp only [List.length_append, List.length_cons, List.length_nil]); omega
          · (try simp only [List.length_append, List.length_cons, List.length_nil]); omega
          · exact hs.size
          intro gob capob w30 hown1 hgrow hat hlt_
          have hk_ := KeepD.owns hown0 hgrow (by decide)
          have ho := owns_onlyT hown0 hgrow
          replace hs := hs.grown hgrow hs.size (fun k hk => (hown0.lt k hk).1)
          replace Oob := OwnL.push RC.kept ho1 ho2 ho3 (x := (nthL A k)) rr13 (by simp) hown1 ho (by decide) (by decide)
          replace Bllevel := Bllevel.only ho (by decide)
          replace Blls := Blls.only ho (by decide)
          replace rp12 := rp12.onlyT PC.kept ho (by decide) (by decide)
          replace rr13 := rr13.onlyT RC.kept ho (by decide) (by decide)
          replace Ooa := Ooa.onlyT PC.kept ho (by decide) (by decide) (by decide)
          clear hk_ ho ho1 ho2 ho3 hown0 hown1 hgrow hat hlt_ Blls3
          by_cases q14 : rgt A k = true
          · obtain rfl : b5 = true := by rw [Hb5.out]; exact q14
            have q14H := Lib.hid q14
            clear q14
            go_wp2_with fail
            with_reducible refine (r8_chV_all (e := chE (nthL A k)) _ rr13 rfl).mono ?_
            rintro e w31 ⟨rfl, hb⟩
            replace hs := bStep hs hb
            replace Bllevel := Bllevel.mono hb
            replace Blls := Blls.mono hb
            replace Ooa := Ooa.mono PC.kept hb
            replace Oob := Oob.mono RC.kept hb
            replace rp12 := rowsJ PC.kept _ _ _ rp12 hb
            replace rr13 := rowsJ RC.kept _ _ _ rr13 hb
            clear hb
            obtain ⟨sg15, Hsg15⟩ : ∃ s : Int, s = chE (nthL A k) := ⟨_, rfl⟩
            rw [← Hsg15]
            replace Hsg15 := Lib.hid Hsg15
            by_cases q16 : sg15 = 0
            · have q16b : (sg15 == 0) = true := beq_iff_eq.2 (by omega)
              have q16n : (sg15 != 0) = false := bne_eq_false_iff_eq.2 (by omega)
              have q16H := Lib.hid q16
              clear q16
              go_wp2
              go_roundw
              case rel => exact ⟨k + 1, by omega, by go_num, (congrArg _ (show ((lenS A k : Nat) : Int) + (((nthF l k).length : Nat) : Int) = ((lenS A (k + 1) : Nat) : Int) from by show _ = ((lenS A k + (nthL A k).length : Nat) : Int); omega)), (congrArg _ (rgt_T q14H.out (Hsg15.out.symm.trans q16H.out))), hs, Bllevel, Blls, (by rw [baF_take HAE.out (show k < l.length by omega)]; exact Ooa), (by rw [baF_take HAE.out (show k < l.length by omega)]; exact Oob), (okF_next HF.out (by omega) q11H.out)⟩
              all_goals first | (simp [intOf]; done) | (simp [intOf]; omega)
            · have q16b : (sg15 == 0) = false := beq_eq_false_iff_ne.2 (by omega)
              have q16n : (sg15 != 0) = true := bne_iff_ne.2 (by omega)
              have q16H := Lib.hid q16
              clear q16
              go_wp2
              go_roundw
              case rel => exact ⟨k + 1, by omega, by go_num, (congrArg _ (show ((lenS A k : Nat) : Int) + (((nthF l k).length : Nat) : Int) = ((lenS A (k + 1) : Nat) : Int) from by show _ = ((lenS A k + (nthL A k).length : Nat) : Int); omega)), (congrArg _ (rgt_F2 (fun e_ => q16H.out (Hsg15.out.trans e_)))), hs, Bllevel, Blls, (by rw [baF_take HAE.out (show k < l.length by omega)]; exact Ooa), (by rw [baF_take HAE.out (show k < l.length by omega)]; exact Oob), (okF_next HF.out (by omega) q11H.out)⟩
              all_goals first | (simp [intOf]; done) | (simp [intOf]; omega)
          · obtain rfl : b5 = false := by rw [Hb5.out]; simpa using q14
            have q14H := Lib.hid q14
            clear q14
            go_wp2
            go_roundw
            case rel => exact ⟨k + 1, by omega, by go_num, (congrArg _ (show ((lenS A k : Nat) : Int) + (((nthF l k).length : Nat) : Int) = ((lenS A (k + 1) : Nat) : Int) from by show _ = ((lenS A k + (nthL A k).length : Nat) : Int); omega)), (congrArg _ (rgt_F1 q14H.out)), hs, Bllevel, Blls, (by rw [baF_take HAE.out (show k < l.length by omega)]; exact Ooa), (by rw [baF_take HAE.out (show k < l.length by omega)]; exact Oob), (okF_next HF.out (by omega) q11H.out)⟩
            all_goals first | (simp [intOf]; done) | (simp [intOf]; omega)
        · obtain rfl : b10 = false := by rw [Hb10.out]; simpa using q11
          have q11H := Lib.hid q11
          clear q11
          go_wp2
          go_ret
          exact ⟨rfl, hs⟩
    · have q6d : ((k : Int) < (l.length : Int)) = False := eq_false (by omega)
      obtain rfl : k = A.length := by omega
      rw [tkA_all] at Ooa Oob
      have hRa := Ooa.rows
      have hRb := Oob.rows
      clear Ooa Oob lta
      have HSZ := Lib.hid (szF HAE.out (fun i hi => (HF.out i hi).2))
      obtain ⟨aa, ca, rfl, ha1, ha2, -⟩ := hRa.toI.slice
      obtain ⟨ab, cb, rfl, hb1, hb2, -⟩ := hRb.toI.slice
      have q7 : rgt A A.length = true := HR.out
      obtain rfl : b5 = true := by rw [Hb5.out]; exact q7
      have q7H := Lib.hid q7
      clear q7
      have q8 : ¬ ((lenS A A.length : Nat) ≤ 64) := (by omega)
      have q8d : (((lenS A A.length : Nat) : Int) ≤ 64) = False := eq_false (by omega)
      have clevel_0 : wr.cell? ⟨w.heap.size, 0, none⟩ = some (.int .i64 n1) := Bllevel.at 0 rfl
      have clevel_1 : wr.cell? ⟨w.heap.size, 1, none⟩ = some (.int .i64 d1) := Bllevel.at 1 rfl
      have Llevel : w.heap.size < wr.heap.size := Bllevel.lt
      go_wp2_with fail
      clear clevel_0 clevel_1 Llevel
      with_reducible refine (l1_OfL _ O1.out HU1.out).mono ?_
      rintro e w25 ⟨_, rfl, h9, hb⟩
      obtain ⟨sh9, ah9, nh9, ch9, Ah9, Nh9, Ch9, rfl⟩ := h9.shape
      replace hs := bStep hs hb
      replace Bllevel := Bllevel.mono hb
      replace Blls := Blls.mono hb
      replace hRa := rowsLJ PC.kept _ _ _ hRa hb
      replace hRb := rowsLJ RC.kept _ _ _ hRb hb
      clear hb
      go_wp2_with fail
      with_reducible refine (al_Pool_all _ hRa h9 (sl.mono (by decide)) HSZ.out HW.out HO.out HW12.out).mono ?_
      rintro e w26 ⟨_, _, rfl, ho10, rfl, hb⟩
      obtain ⟨aho10, kho10, rfl, ho101, ho102, -⟩ := ho10.toI.slice
      replace hs := bStep hs hb
      replace Bllevel := Bllevel.mono hb
      replace Blls := Blls.mono hb
      replace h9 := h9.mono hb
      replace hRa := rowsLJ PC.kept _ _ _ hRa hb
      replace hRb := rowsLJ RC.kept _ _ _ hRb hb
      clear hb
      have clevel_0 : w26.cell? ⟨w.heap.size, 0, none⟩ = some (.int .i64 n1) := Bllevel.at 0 rfl
      have clevel_1 : w26.cell? ⟨w.heap.size, 1, none⟩ = some (.int .i64 d1) := Bllevel.at 1 rfl
      have Llevel : w.heap.size < w26.heap.size := Bllevel.lt
      go_wp2_with fail
      clear clevel_0 clevel_1 Llevel
      with_reducible refine (r1_OfL _ O1.out HU1.out).mono ?_
      rintro e w27 ⟨_, rfl, h11, hb⟩
      obtain ⟨sh11, ah11, nh11, ch11, Ah11, Nh11, Ch11, rfl⟩ := h11.shape
      replace hs := bStep hs hb
      replace Bllevel := Bllevel.mono hb
      replace Blls := Blls.mono hb
      replace h9 := h9.mono hb
      replace hRa := rowsLJ PC.kept _ _ _ hRa hb
      replace hRb := rowsLJ RC.kept _ _ _ hRb hb
      replace ho10 := rowsJ BC.kept _ _ _ ho10 hb
      clear hb
      go_wp2_with fail
      with_reducible refine (r8_Pool_all _ hRb h11 (sl.mono (by decide)) HSZ.out HW.out HO.out HW12.out).mono ?_
      rintro e w28 ⟨_, _, rfl, ho12, rfl, hb⟩
      obtain ⟨aho12, kho12, rfl, ho121, ho122, -⟩ := ho12.toI.slice
      replace hs := bStep hs hb
      replace Bllevel := Bllevel.mono hb
      replace Blls := Blls.mono hb
      replace h9 := h9.mono hb
      replace h11 := h11.mono hb
      replace hRa := rowsLJ PC.kept _ _ _ hRa hb
      replace hRb := rowsLJ RC.kept _ _ _ hRb hb
      replace ho10 := rowsJ BC.kept _ _ _ ho10 hb
      clear hb
      have q13b : (W == W) = true := beq_self_eq_true _
      have q13n : (W != W) = false := bne_self_eq_false _
      go_wp2_with fail
      with_reducible refine (sl_EqB _ ho10 ho12 (by omega)).mono ?_
      rintro e w29 ⟨rfl, hb⟩
      replace hs := bStep hs hb
      replace Bllevel := Bllevel.mono hb
      replace Blls := Blls.mono hb
      replace h9 := h9.mono hb
      replace h11 := h11.mono hb
      replace hRa := rowsLJ PC.kept _ _ _ hRa hb
      replace hRb := rowsLJ RC.kept _ _ _ hRb hb
      replace ho10 := rowsJ BC.kept _ _ _ ho10 hb
      replace ho12 := rowsJ BC.kept _ _ _ ho12 hb
      clear hb
      go_wp2
      go_ret
      exact ⟨rfl, hs⟩

set_option maxRecDepth 100000 in
set_option maxHeartbeats 16000000 in
theorem l8_Pools_m4 (v : Value) (l : LF) (n1 d1 : Int) (w : World) (hl : RowsI 1 (LRI 2 FC) w v l) (h1 : 1 ≤ l.length) (h2 : l.length ≤ 16) (hT : [(n1, d1)].all smF8 = true) (hlo : ∀ m ∈ l, ∀ x ∈ m, DOk x) (o1 : DOk (n1, d1)) (A : List (List Rat)) (hA : baF l = A) (la1 : A.length ≤ l.length) (la2 : l.length ≤ A.length) (lev : Rat) (hu1 : fracQ n1 d1 = lev) (sl : SzQ 1 lev) (W : Int) (O : List Bool) (lO : O.length ≤ 20) (hr0 : true = rgt A 0) (hr : rgt A A.length = true) (h3 : lenS A A.length ≤ 64) (h4 : 12 < lenS A A.length) :
    Calls Tryz.prog 6 #[v, .agg #[.int .i64 n1, .int .i64 d1]] w (RetV w (.bool true)) := by
  obtain ⟨lb, lo, cap, rfl, hc1, hc2⟩ := hl.openL (by omega)
  have hs := Below.refl w.heap.size w
  have HL := Lib.hid hl
  have HT := Lib.hid hT
  have HLO := Lib.hid hlo
  have O1 := Lib.hid o1
  have HAE := Lib.hid hA
  have HU1 := Lib.hid hu1
  have HR0 := Lib.hid hr0
  have HR := Lib.hid hr
  clear hl hT hlo o1 hA hu1 hr0 hr
  obtain ⟨i0, hi, hz0, hz1, hz2⟩ := info_parts slp_info
  obtain ⟨j0, hj, hy0, hy1, hy2⟩ := info_parts slr_info
  go_enter Tryz.func6, Tryz.ntmps6
  go_wp2_with fail
  refine Calls.abs ?_
  intro w1 hW
  have hG : Gr [] w w1 := by rw [hW]; exact (Gr.refl _ _).alloc
  have hbw : Below w.heap.size w w1 := hG.below0 hs.size
  have hk : KeepD w w1 := hG.keep True.intro
  have sz_w1 : w.heap.size ≤ w.heap.size := hs.size
  have Bllevel : Bx w1 (w.heap.size) 23 #[.int .i64 n1, .int .i64 d1] := by rw [hW]; exact (Bx.new0 _ _ _)
  replace hs := hs.trans hbw
  clear hW hG hk hbw
  have hz_w1 : w.heap.size < w1.heap.size := Bllevel.lt
  with_reducible refine (l8_awake _).mono ?_
  rintro e w2 ⟨rfl, hb⟩
  replace hs := bStep hs hb
  replace Bllevel := Bllevel.mono hb
  clear hb
  have q1 : ¬ (20 < l.length) := (by omega)
  have q1d : ((20 : Int) < (l.length : Int)) = False := eq_false (by omega)
  have clevel_0 : w2.cell? ⟨w.heap.size, 0, none⟩ = some (.int .i64 n1) := Bllevel.at 0 rfl
  have clevel_1 : w2.cell? ⟨w.heap.size, 1, none⟩ = some (.int .i64 d1) := Bllevel.at 1 rfl
  have Llevel : w.heap.size < w2.heap.size := Bllevel.lt
  go_wp2_with fail
  clear clevel_0 clevel_1 Llevel
  refine Calls.abs ?_
  intro w3 hW
  have hG : Gr [] w2 w3 := by rw [hW]; exact (Gr.refl _ _).alloc
  have hbw : Below w.heap.size w2 w3 := hG.below0 hs.size
  have hk : KeepD w2 w3 := hG.keep True.intro
  have sz_w3 : w.heap.size ≤ w2.heap.size := hs.size
  have nlevel_w3 : w.heap.size < w2.heap.size := Bllevel.lt
  have Blls : Bx w3 (w2.heap.size) 23 #[.int .i64 n1, .int .i64 d1] := by rw [hW]; exact (Bx.new0 _ _ _)
  replace hs := hs.trans hbw
  replace Bllevel := hG.bx Bllevel notMem0
  clear hW hG hk hbw
  have hz_w3 : w2.heap.size < w3.heap.size := Blls.lt
  with_reducible refine (l8_small8 _ [(n1, d1)] _ (rowsFt1 Blls)).mono ?_
  rintro e w4 ⟨rfl, hb⟩
  replace hs := bStep hs hb
  replace Bllevel := Bllevel.mono hb
  replace Blls := Blls.mono hb
  clear hb
  obtain ⟨b2, Hb2⟩ : ∃ b : Bool, b = [(n1, d1)].all smF8 := ⟨_, rfl⟩
  rw [← Hb2]
  replace Hb2 := Lib.hid Hb2
  have q3 : [(n1, d1)].all smF8 = true := HT.out
  obtain rfl : b2 = true := by rw [Hb2.out]; exact q3
  have q3H := Lib.hid q3
  clear q3
  have q4 : 1 ≤ l.length := (by omega)
  have q4d : ((1 : Int) ≤ (l.length : Int)) = True := eq_true (by omega)
  go_wp2
  go_loopw [5, 6, 7, 8, 41] (fun s5 s6 s7 s8 s41 wq => ∃ k : Nat, k ≤ l.length ∧ s41 = .int .i64 k ∧ s7 = .int .i64 (((lenS A k : Nat) : Int)) ∧ s8 = .bool (rgt A k) ∧ Below w.heap.size w wq ∧ Bx wq (w.heap.size) 23 #[.int .i64 n1, .int .i64 d1] ∧ Bx wq (w2.heap.size) 23 #[.int .i64 n1, .int .i64 d1] ∧ OwnL w.heap.size 46 3 29 PC wq s5 (tkA A k) ∧ OwnL w.heap.size 47 3 36 RC wq s6 (tkA A k) ∧ (∀ i, i < k → (nthF l i).length ≤ 70 ∧ (nthF l i).all smF24 = true)) (fun s5 s6 s7 s8 s41 _ => l.length - (intOf s41).toNat)
  case atStart => exact ⟨0, Nat.zero_le _, rfl, rfl, (congrArg _ ((decide_eq_true (by omega)).trans HR0.out)), hs, Bllevel, Blls, OwnR.nil _ _ _ _ _, OwnR.nil _ _ _ _ _, (fun i h_ => absurd h_ (Nat.not_lt_zero _))⟩
  case round =>
    clear Bllevel Blls hs
    obtain ⟨k, k_le, rfl, rfl, rfl, hs, Bllevel, Blls, Ooa, Oob, HF⟩ := hrel
    replace HF := Lib.hid HF
    obtain ⟨b5, Hb5⟩ : ∃ b : Bool, b = rgt A k := ⟨_, rfl⟩
    rw [← Hb5]
    replace Hb5 := Lib.hid Hb5
    have lta := tkA_len A k
    have lnk := lenF_le HAE.out HF.out k_le
    have lnj1 : k < l.length → (nthL A k).length ≤ (nthF l k).length := fun h_ => by rw [← baF_at HAE.out h_, List.length_map]; exact Nat.le_refl _
    have lnj2 : k < l.length → (nthF l k).length ≤ (nthL A k).length := fun h_ => by rw [← baF_at HAE.out h_, List.length_map]; exact Nat.le_refl _
    by_cases q6 : k < l.length
    · have q6d : ((k : Int) < (l.length : Int)) = True := eq_true (by omega)
      have BI7a : k < l.length := by omega
      have BI7b : ((k : Int) : Int) < (l.length : Int) := by omega
      obtain ⟨ao8, ko8, Eo8, -, -, ho8, lo8⟩ := rowLI_at HL.out (nthF_some (show k < l.length by omega))
      replace Eo8 := cellK Eo8 hs
      replace ho8 := Lib.hid ho8
      by_cases q9 : 70 < (nthF l k).length
      · have q9d : ((70 : Int) < ((nthF l k).length : Int)) = True := eq_true (by omega)
        go_wp2
        clear lo8 Eo8
        go_ret
        exact ⟨rfl, hs⟩
      · have q9d : ((70 : Int) < ((nthF l k).length : Int)) = False := eq_false (by omega)
        go_wp2_with fail
        clear lo8 Eo8
        with_reducible refine (l8_small24 _ (nthF l k) _ (ho8.out.mono FC.kept hs)).mono ?_
        rintro e w25 ⟨rfl, hb⟩
        replace hs := bStep hs hb
        replace Bllevel := Bllevel.mono hb
        replace Blls := Blls.mono hb
        replace Ooa := Ooa.mono PC.kept hb
        replace Oob := Oob.mono RC.kept hb
        clear hb
        obtain ⟨b10, Hb10⟩ : ∃ b : Bool, b = (nthF l k).all smF24 := ⟨_, rfl⟩
        rw [← Hb10]
        replace Hb10 := Lib.hid Hb10
        by_cases q11 : (nthF l k).all smF24 = true
        · obtain rfl : b10 = true := by rw [Hb10.out]; exact q11
          have q11H := Lib.hid q11
          clear q11
          go_wp2_with fail
          with_reducible refine (l8_list _ (nthF l k) _ (ho8.out.mono FC.kept hs) (by omega) (HLO.out _ (nthF_mem (show k < l.length by omega)))).mono ?_
          rintro e w26 ⟨_, _, rfl, rp12, rr13, hb⟩
          rw [baF_at HAE.out (show k < l.length by omega)] at rp12
          obtain ⟨arp12, krp12, rfl, rp121, rp122, -⟩ := rp12.toI.slice
          rw [baF_at HAE.out (show k < l.length by omega)] at rr13
          obtain ⟨arr13, krr13, rfl, rr131, rr132, -⟩ := rr13.toI.slice
          replace hs := bStep hs hb
          replace Bllevel := Bllevel.mono hb
          replace Blls := Blls.mono hb
          replace Ooa := Ooa.mono PC.kept hb
          replace Oob := Oob.mono RC.kept hb
          clear hb
          go_wp2_with (at_builtin; refine wpList.stop ?_)
          refine ⟨?_⟩
          refine wpList.abs ?_
          intro w27 hW
          have hG : Gr [] w26 w27 := by rw [hW]; exact (Gr.refl _ _).alloc
          have hbw : Below w.heap.size w26 w27 := hG.below0 hs.size
          have hk : KeepD w26 w27 := hG.keep True.intro
          have sz_w27 : w.heap.size ≤ w26.heap.size := hs.size
          have nlevel_w27 : w.heap.size < w26.heap.size := Bllevel.lt
          have nls_w27 : w2.heap.size < w26.heap.size := Blls.lt
          have Blls2 : Bx w27 (w26.heap.size) 46 #[.slice arp12 (nthL A k).length krp12] := by rw [hW]; exact (Bx.new0 _ _ _)
          replace hs := hs.trans hbw
          replace rp12 := rowsJ PC.kept _ _ _ rp12 (hG.below0 (Nat.le_refl _))
          replace rr13 := rowsJ RC.kept _ _ _ rr13 (hG.below0 (Nat.le_refl _))
          replace Bllevel := hG.bx Bllevel notMem0
          replace Blls := hG.bx Blls notMem0
          replace Ooa := Ooa.mono PC.kept (hG.below0 (Nat.le_refl _))
          replace Oob := Oob.mono RC.kept (hG.below0 (Nat.le_refl _))
          clear hW hG hk hbw
          have hz_w27 : w26.heap.size < w27.heap.size := Blls2.lt
          obtain ⟨css, ho1, ho2, ho3, hown0⟩ := Ooa
          refine wpList_append_lies _ rfl _ _ _ rfl w.heap.size 46 i0 _ 1 24 Tryz.underlying70 hi hz0 hz1 hz2 rfl (by omega) _ _ css.flatten rfl hown0 ⟨w26.heap.size, 0, none⟩ 1 1 [.slice arp12 (nthL A k).length krp12] rfl rfl Blls2.news ?_ (by omega) ?_ ?_ ?_ _ rfl ?_
          · intro u hu; simp only [List.mem_cons, List.mem_nil_iff, or_false] at hu; rcases hu with rfl <;> rfl
          · unfold maxLen; (try simp only [List.length_append, List.length_cons, List.length_nil]); omega
          · (try simp only [List.length_append, List.length_cons, List.length_nil]); omega
          · exact hs.size
          intro goa capoa w28 hown1 hgrow hat hlt_
          have hk_ := KeepD.owns hown0 hgrow (by decide)
          have ho := owns_onlyT hown0 hgrow
          replace hs := hs.grown hgrow hs.size (fun k hk => (hown0.lt k hk).1)
          replace Ooa := OwnL.push PC.kept ho1 ho2 ho3 (x := (nthL A k)) rp12 (by simp) hown1 ho (by decide) (by decide)
          replace Bllevel := Bllevel.only ho (by decide)
          replace Blls := Blls.only ho (by decide)
          replace rp12 := rp12.onlyT PC.kept ho (by decide) (by decide)
          replace rr13 := rr13.onlyT RC.kept ho (by decide) (by decide)
          replace Oob := Oob.onlyT RC.kept ho (by decide) (by decide) (by decide)
          clear hk_ ho ho1 ho2 ho3 hown0 hown1 hgrow hat hlt_ Blls2
          go_wp2_with (at_builtin; refine wpList.stop ?_)
          refine ⟨?_⟩
          refine wpList.abs ?_
          intro w29 hW
          have hG : Gr [] w28 w29 := by rw [hW]; exact (Gr.refl _ _).alloc
          have hbw : Below w.heap.size w28 w29 := hG.below0 hs.size
          have hk : KeepD w28 w29 := hG.keep True.intro
          have sz_w29 : w.heap.size ≤ w28.heap.size := hs.size
          have nlevel_w29 : w.heap.size < w28.heap.size := Bllevel.lt
          have nls_w29 : w2.heap.size < w28.heap.size := Blls.lt
          have Blls3 : Bx w29 (w28.heap.size) 47 #[.slice arr13 (nthL A k).length krr13] := by rw [hW]; exact (Bx.new0 _ _ _)
          replace hs := hs.trans hbw
          replace rp12 := rowsJ PC.kept _ _ _ rp12 (hG.below0 (Nat.le_refl _))
          replace rr13 := rowsJ RC.kept _ _ _ rr13 (hG.below0 (Nat.le_refl _))
          replace Bllevel := hG.bx Bllevel notMem0
          replace Blls := hG.bx Blls notMem0
          replace Ooa := Ooa.mono PC.kept (hG.below0 (Nat.le_refl _))
          replace Oob := Oob.mono RC.kept (hG.below0 (Nat.le_refl _))
          clear hW hG hk hbw
          have hz_w29 : w28.heap.size < w29.heap.size := Blls3.lt
          obtain ⟨css, ho1, ho2, ho3, hown0⟩ := Oob
          refine wpList_append_lies _ rfl _ _ _ rfl w.heap.size 47 j0 _ 1 24 Tryz.underlying71 hj hy0 hy1 hy2 rfl (by omega) _ _ css.flatten rfl hown0 ⟨w28.heap.size, 0, none⟩ 1 1 [.slice arr13 (nthL A k).length krr13] rfl rfl Blls3.news ?_ (by omega) ?_ ?_ ?_ _ rfl ?_
          · intro u hu; simp only [List.mem_cons, List.mem_nil_iff, or_false] at hu; rcases hu with rfl <;> rfl
          · unfold maxLen; (try simp only [List.length_append, List.length_cons, List.length_nil]); omega
          · (try simp only [List.length_append, List.length_cons, List.length_nil]); omega
          · exact hs.size
          intro gob capob w30 hown1 hgrow hat hlt_
          have hk_ := KeepD.owns hown0 hgrow (by decide)
          have ho := owns_onlyT hown0 hgrow
          replace hs := hs.grown hgrow hs.size (fun k hk => (hown0.lt k hk).1)
          replace Oob := OwnL.push RC.kept ho1 ho2 ho3 (x := (nthL A k)) rr13 (by simp) hown1 ho (by decide) (by decide)
          replace Bllevel := Bllevel.only ho (by decide)
          replace Blls := Blls.only ho (by decide)
          replace rp12 := rp12.onlyT PC.kept ho (by decide) (by decide)
          replace rr13 := rr13.onlyT RC.kept ho (by decide) (by decide)
          replace Ooa := Ooa.onlyT PC.kept ho (by decide) (by decide) (by decide)
          clear hk_ ho ho1 ho2 ho3 hown0 hown1 hgrow hat hlt_ Blls3
          by_cases q14 : rgt A k = true
          · obtain rfl : b5 = true := by rw [Hb5.out]; exact q14
            have q14H := Lib.hid q14
            clear q14
            go_wp2_with fail
            with_reducible refine (r8_chV_all (e := chE (nthL A k)) _ rr13 rfl).mono ?_
            rintro e w31 ⟨rfl, hb⟩
            replace hs := bStep hs hb
            replace Bllevel := Bllevel.mono hb
            replace Blls := Blls.mono hb
            replace Ooa := Ooa.mono PC.kept hb
            replace Oob := Oob.mono RC.kept hb
            replace rp12 := rowsJ PC.kept _ _ _ rp12 hb
            replace rr13 := rowsJ RC.kept _ _ _ rr13 hb
            clear hb
            obtain ⟨sg15, Hsg15⟩ : ∃ s : Int, s = chE (nthL A k) := ⟨_, rfl⟩
            rw [← Hsg15]
            replace Hsg15 := Lib.hid Hsg15
            by_cases q16 : sg15 = 0
            · have q16b : (sg15 == 0) = true := beq_iff_eq.2 (by omega)
              have q16n : (sg15 != 0) = false := bne_eq_false_iff_eq.2 (by omega)
              have q16H := Lib.hid q16
              clear q16
              go_wp2
              go_roundw
              case rel => exact ⟨k + 1, by omega, by go_num, (congrArg _ (show ((lenS A k : Nat) : Int) + (((nthF l k).length : Nat) : Int) = ((lenS A (k + 1) : Nat) : Int) from by show _ = ((lenS A k + (nthL A k).length : Nat) : Int); omega)), (congrArg _ (rgt_T q14H.out (Hsg15.out.symm.trans q16H.out))), hs, Bllevel, Blls, (by rw [baF_take HAE.out (show k < l.length by omega)]; exact Ooa), (by rw [baF_take HAE.out (show k < l.length by omega)]; exact Oob), (okF_next HF.out (by omega) q11H.out)⟩
              all_goals first | (simp [intOf]; done) | (simp [intOf]; omega)
            · have q16b : (sg15 == 0) = false := beq_eq_false_iff_ne.2 (by omega)
              have q16n : (sg15 != 0) = true := bne_iff_ne.2 (by omega)
              have q16H := Lib.hid q16
              clear q16
              go_wp2
              go_roundw
              case rel => exact ⟨k + 1, by omega, by go_num, (congrArg _ (show ((lenS A k : Nat) : Int) + (((nthF l k).length : Nat) : Int) = ((lenS A (k + 1) : Nat) : Int) from by show _ = ((lenS A k + (nthL A k).length : Nat) : Int); omega)), (congrArg _ (rgt_F2 (fun e_ => q16H.out (Hsg15.out.trans e_)))), hs, Bllevel, Blls, (by rw [baF_take HAE.out (show k < l.length by omega)]; exact Ooa), (by rw [baF_take HAE.out (show k < l.length by omega)]; exact Oob), (okF_next HF.out (by omega) q11H.out)⟩
              all_goals first | (simp [intOf]; done) | (simp [intOf]; omega)
          · obtain rfl : b5 = false := by rw [Hb5.out]; simpa using q14
            have q14H := Lib.hid q14
            clear q14
            go_wp2
            go_roundw
            case rel => exact ⟨k + 1, by omega, by go_num, (congrArg _ (show ((lenS A k : Nat) : Int) + (((nthF l k).length : Nat) : Int) = ((lenS A (k + 1) : Nat) : Int) from by show _ = ((lenS A k + (nthL A k).length : Nat) : Int); omega)), (congrArg _ (rgt_F1 q14H.out)), hs, Bllevel, Blls, (by rw [baF_take HAE.out (show k < l.length by omega)]; exact Ooa), (by rw [baF_take HAE.out (show k < l.length by omega)]; exact Oob), (okF_next HF.out (by omega) q11H.out)⟩
            all_goals first | (simp [intOf]; done) | (simp [intOf]; omega)
        · obtain rfl : b10 = false := by rw [Hb10.out]; simpa using q11
          have q11H := Lib.hid q11
          clear q11
          go_wp2
          go_ret
          exact ⟨rfl, hs⟩
    · have q6d : ((k : Int) < (l.length : Int)) = False := eq_false (by omega)
      obtain rfl : k = A.length := by omega
      rw [tkA_all] at Ooa Oob
      have hRa := Ooa.rows
      have hRb := Oob.rows
      clear Ooa Oob lta
      have HSZ := Lib.hid (szF HAE.out (fun i hi => (HF.out i hi).2))
      obtain ⟨aa, ca, rfl, ha1, ha2, -⟩ := hRa.toI.slice
      obtain ⟨ab, cb, rfl, hb1, hb2, -⟩ := hRb.toI.slice
      have q7 : rgt A A.length = true := HR.out
      obtain rfl : b5 = true := by rw [Hb5.out]; exact q7
      have q7H := Lib.hid q7
      clear q7
      have q8 : (lenS A A.length : Nat) ≤ 64 := (by omega)
      have q8d : (((lenS A A.length : Nat) : Int) ≤ 64) = True := eq_true (by omega)
      have q9 : 12 < (lenS A A.length : Nat) := (by omega)
      have q9d : ((12 : Int) < ((lenS A A.length : Nat) : Int)) = True := eq_true (by omega)
      go_wp2
      go_ret
      exact ⟨rfl, hs⟩

set_option maxRecDepth 100000 in
set_option maxHeartbeats 16000000 in
theorem l8_Pools_m5 (v : Value) (l : LF) (n1 d1 : Int) (w : World) (hl : RowsI 1 (LRI 2 FC) w v l) (h1 : 1 ≤ l.length) (h2 : l.length ≤ 16) (hT : [(n1, d1)].all smF8 = true) (hlo : ∀ m ∈ l, ∀ x ∈ m, DOk x) (o1 : DOk (n1, d1)) (A : List (List Rat)) (hA : baF l = A) (la1 : A.length ≤ l.length) (la2 : l.length ≤ A.length) (lev : Rat) (hu1 : fracQ n1 d1 = lev) (sl : SzQ 1 lev) (W : Int) (O : List Bool) (hW : poolE lev A = W) (hO : poolO lev A = O) (lO : O.length ≤ 20) (hr0 : true = rgt A 0) (h12 : W = 0 → lenS A A.length ≤ 12) (hr : rgt A A.length = true) (h3 : lenS A A.length ≤ 12) :
    Calls Tryz.prog 6 #[v, .agg #[.int .i64 n1, .int .i64 d1]] w (RetV w (.bool true)) := by
  obtain ⟨lb, lo, cap, rfl, hc1, hc2⟩ := hl.openL (by omega)
  have hs := Below.refl w.heap.size w
  have HL := Lib.hid hl
  have HT := Lib.hid hT
  have HLO := Lib.hid hlo
  have O1 := Lib.hid o1
  have HAE := Lib.hid hA
  have HU1 := Lib.hid hu1
  have HW := Lib.hid hW
  have HO := Lib.hid hO
  have HR0 := Lib.hid hr0
  have HW12 := Lib.hid h12
  have HR := Lib.hid hr
  clear hl hT hlo o1 hA hu1 hW hO hr0 h12 hr
  obtain ⟨i0, hi, hz0, hz1, hz2⟩ := info_parts slp_info
  obtain ⟨j0, hj, hy0, hy1, hy2⟩ := info_parts slr_info
  go_enter Tryz.func6, Tryz.ntmps6
  go_wp2_with fail
  refine Calls.abs ?_
  intro w1 hW
  have hG : Gr [] w w1 := by rw [hW]; exact (Gr.refl _ _).alloc
  have hbw : Below w.heap.size w w1 := hG.below0 hs.size
  have hk : KeepD w w1 := hG.keep True.intro
  have sz_w1 : w.heap.size ≤ w.heap.size := hs.size
  have Bllevel : Bx w1 (w.heap.size) 23 #[.int .i64 n1, .int .i64 d1] := by rw [hW]; exact (Bx.new0 _ _ _)
  replace hs := hs.trans hbw
  clear hW hG hk hbw
  have hz_w1 : w.heap.size < w1.heap.size := Bllevel.lt
  with_reducible refine (l8_awake _).mono ?_
  rintro e w2 ⟨rfl, hb⟩
  replace hs := bStep hs hb
  replace Bllevel := Bllevel.mono hb
  clear hb
  have q1 : ¬ (20 < l.length) := (by omega)
  have q1d : ((20 : Int) < (l.length : Int)) = False := eq_false (by omega)
  have clevel_0 : w2.cell? ⟨w.heap.size, 0, none⟩ = some (.int .i64 n1) := Bllevel.at 0 rfl
  have clevel_1 : w2.cell? ⟨w.heap.size, 1, none⟩ = some (.int .i64 d1) := Bllevel.at 1 rfl
  have Llevel : w.heap.size < w2.heap.size := Bllevel.lt
  go_wp2_with fail
  clear clevel_0 clevel_1 Llevel
  refine Calls.abs ?_
  intro w3 hW
  have hG : Gr [] w2 w3 := by rw [hW]; exact (Gr.refl _ _).alloc
  have hbw : Below w.heap.size w2 w3 := hG.below0 hs.size
  have hk : KeepD w2 w3 := hG.keep True.intro
  have sz_w3 : w.heap.size ≤ w2.heap.size := hs.size
  have nlevel_w3 : w.heap.size < w2.heap.size := Bllevel.lt
  have Blls : Bx w3 (w2.heap.size) 23 #[.int .i64 n1, .int .i64 d1] := by rw [hW]; exact (Bx.new0 _ _ _)
  replace hs := hs.trans hbw
  replace Bllevel := hG.bx Bllevel notMem0
  clear hW hG hk hbw
  have hz_w3 : w2.heap.size < w3.heap.size := Blls.lt
  with_reducible refine (l8_small8 _ [(n1, d1)] _ (rowsFt1 Blls)).mono ?_
  rintro e w4 ⟨rfl, hb⟩
  replace hs := bStep hs hb
  replace Bllevel := Bllevel.mono hb
  replace Blls := Blls.mono hb
  clear hb
  obtain ⟨b2, Hb2⟩ : ∃ b : Bool, b = [(n1, d1)].all smF8 := ⟨_, rfl⟩
  rw [← Hb2]
  replace Hb2 := Lib.hid Hb2
  have q3 : [(n1, d1)].all smF8 = true := HT.out
  obtain rfl : b2 = true := by rw [Hb2.out]; exact q3
  have q3H := Lib.hid q3
  clear q3
  have q4 : 1 ≤ l.length := (by omega)
  have q4d : ((1 : Int) ≤ (l.length : Int)) = True := eq_true (by omega)
  go_wp2
  go_loopw [5, 6, 7, 8, 41] (fun s5 s6 s7 s8 s41 wq => ∃ k : Nat, k ≤ l.length ∧ s41 = .int .i64 k ∧ s7 = .int .i64 (((lenS A k : Nat) : Int)) ∧ s8 = .bool (rgt A k) ∧ Below w.heap.size w wq ∧ Bx wq (w.heap.size) 23 #[.int .i64 n1, .int .i64 d1] ∧ Bx wq (w2.heap.size) 23 #[.int .i64 n1, .int .i64 d1] ∧ OwnL w.heap.size 46 3 29 PC wq s5 (tkA A k) ∧ OwnL w.heap.size 47 3 36 RC wq s6 (tkA A k) ∧ (∀ i, i < k → (nthF l i).length ≤ 70 ∧ (nthF l i).all smF24 = true)) (fun s5 s6 s7 s8 s41 _ => l.length - (intOf s41).toNat)
  case atStart => exact ⟨0, Nat.zero_le _, rfl, rfl, (congrArg _ ((decide_eq_true (by omega)).trans HR0.out)), hs, Bllevel, Blls, OwnR.nil _ _ _ _ _, OwnR.nil _ _ _ _ _, (fun i h_ => absurd h_ (Nat.not_lt_zero _))⟩
  case round =>
    clear Bllevel Blls hs
    obtain ⟨k, k_le, rfl, rfl, rfl, hs, Bllevel, Blls, Ooa, Oob, HF⟩ := hrel
    replace HF := Lib.hid HF
    obtain ⟨b5, Hb5⟩ : ∃ b : Bool, b = rgt A k := ⟨_, rfl⟩
    rw [← Hb5]
    replace Hb5 := Lib.hid Hb5
    have lta := tkA_len A k
    have lnk := lenF_le HAE.out HF.out k_le
    have lnj1 : k < l.length → (nthL A k).length ≤ (nthF l k).length := fun h_ => by rw [← baF_at HAE.out h_, List.length_map]; exact Nat.le_refl _
    have lnj2 : k < l.length → (nthF l k).length ≤ (nthL A k).length := fun h_ => by rw [← baF_at HAE.out h_, List.length_map]; exact Nat.le_refl _
    by_cases q6 : k < l.length
    · have q6d : ((k : Int) < (l.length : Int)) = True := eq_true (by omega)
      have BI7a : k < l.length := by omega
      have BI7b : ((k : Int) : Int) < (l.length : Int) := by omega
      obtain ⟨ao8, ko8, Eo8, -, -, ho8, lo8⟩ := rowLI_at HL.out (nthF_some (show k < l.length by omega))
      replace Eo8 := cellK Eo8 hs
      replace ho8 := Lib.hid ho8
      by_cases q9 : 70 < (nthF l k).length
      · have q9d : ((70 : Int) < ((nthF l k).length : Int)) = True := eq_true (by omega)
        go_wp2
        clear lo8 Eo8
        go_ret
        exact ⟨rfl, hs⟩
      · have q9d : ((70 : Int) < ((nthF l k).length : Int)) = False := eq_false (by omega)
        go_wp2_with fail
        clear lo8 Eo8
        with_reducible refine (l8_small24 _ (nthF l k) _ (ho8.out.mono FC.kept hs)).mono ?_
        rintro e w25 ⟨rfl, hb⟩
        replace hs := bStep hs hb
        replace Bllevel := Bllevel.mono hb
        replace Blls := Blls.mono hb
        replace Ooa := Ooa.mono PC.kept hb
        replace Oob := Oob.mono RC.kept hb
        clear hb
        obtain ⟨b10, Hb10⟩ : ∃ b : Bool, b = (nthF l k).all smF24 := ⟨_, rfl⟩
        rw [← Hb10]
        replace Hb10 := Lib.hid Hb10
        by_cases q11 : (nthF l k).all smF24 = true
        · obtain rfl : b10 = true := by rw [Hb10.out]; exact q11
          have q11H := Lib.hid q11
          clear q11
          go_wp2_with fail
          with_reducible refine (l8_list _ (nthF l k) _ (ho8.out.mono FC.kept hs) (by omega) (HLO.out _ (nthF_mem (show k < l.length by omega)))).mono ?_
          rintro e w26 ⟨_, _, rfl, rp12, rr13, hb⟩
          rw [baF_at HAE.out (show k < l.length by omega)] at rp12
          obtain ⟨arp12, krp12, rfl, rp121, rp122, -⟩ := rp12.toI.slice
          rw [baF_at HAE.out (show k < l.length by omega)] at rr13
          obtain ⟨arr13, krr13, rfl, rr131, rr132, -⟩ := rr13.toI.slice
          replace hs := bStep hs hb
          replace Bllevel := Bllevel.mono hb
          replace Blls := Blls.mono hb
          replace Ooa := Ooa.mono PC.kept hb
          replace Oob := Oob.mono RC.kept hb
          clear hb
          go_wp2_with (at_builtin; refine wpList.stop ?_)
          refine ⟨?_⟩
          refine wpList.abs ?_
          intro w27 hW
          have hG : Gr [] w26 w27 := by rw [hW]; exact (Gr.refl _ _).alloc
          have hbw : Below w.heap.size w26 w27 := hG.below0 hs.size
          have hk : KeepD w26 w27 := hG.keep True.intro
          have sz_w27 : w.heap.size ≤ w26.heap.size := hs.size
          have nlevel_w27 : w.heap.size < w26.heap.size := Bllevel.lt
          have nls_w27 : w2.heap.size < w26.heap.size := Blls.lt
          have Blls2 : Bx w27 (w26.heap.size) 46 #[.slice arp12 (nthL A k).length krp12] := by rw [hW]; exact (Bx.new0 _ _ _)
          replace hs := hs.trans hbw
          replace rp12 := rowsJ PC.kept _ _ _ rp12 (hG.below0 (Nat.le_refl _))
          replace rr13 := rowsJ RC.kept _ _ _ rr13 (hG.below0 (Nat.le_refl _))
          replace Bllevel := hG.bx Bllevel notMem0
          replace Blls := hG.bx Blls notMem0
          replace Ooa := Ooa.mono PC.kept (hG.below0 (Nat.le_refl _))
          replace Oob := Oob.mono RC.kept (hG.below0 (Nat.le_refl _))
          clear hW hG hk hbw
          have hz_w27 : w26.heap.size < w27.heap.size := Blls2.lt
          obtain ⟨css, ho1, ho2, ho3, hown0⟩ := Ooa
          refine wpList_append_lies _ rfl _ _ _ rfl w.heap.size 46 i0 _ 1 24 Tryz.underlying70 hi hz0 hz1 hz2 rfl (by omega) _ _ css.flatten rfl hown0 ⟨w26.heap.size, 0, none⟩ 1 1 [.slice arp12 (nthL A k).length krp12] rfl rfl Blls2.news ?_ (by omega) ?_ ?_ ?_ _ rfl ?_
          · intro u hu; simp only [List.mem_cons, List.mem_nil_iff, or_false] at hu; rcases hu with rfl <;> rfl
          · unfold maxLen; (try simp only [List.length_append, List.length_cons, List.length_nil]); omega
          · (try simp only [List.length_append, List.length_cons, List.length_nil]); omega
          · exact hs.size
          intro goa capoa w28 hown1 hgrow hat hlt_
          have hk_ := KeepD.owns hown0 hgrow (by decide)
          have ho := owns_onlyT hown0 hgrow
          replace hs := hs.grown hgrow hs.size (fun k hk => (hown0.lt k hk).1)
          replace Ooa := OwnL.push PC.kept ho1 ho2 ho3 (x := (nthL A k)) rp12 (by simp) hown1 ho (by decide) (by decide)
          replace Bllevel := Bllevel.only ho (by decide)
          replace Blls := Blls.only ho (by decide)
          replace rp12 := rp12.onlyT PC.kept ho (by decide) (by decide)
          replace rr13 := rr13.onlyT RC.kept ho (by decide) (by decide)
          replace Oob := Oob.onlyT RC.kept ho (by decide) (by decide) (by decide)
          clear hk_ ho ho1 ho2 ho3 hown0 hown1 hgrow hat hlt_ Blls2
          go_wp2_with (at_builtin; refine wpList.stop ?_)
          refine ⟨?_⟩
          refine wpList.abs ?_
          intro w29 hW
          have hG : Gr [] w28 w29 := by rw [hW]; exact (Gr.refl _ _).alloc
          have hbw : Below w.heap.size w28 w29 := hG.below0 hs.size
          have hk : KeepD w28 w29 := hG.keep True.intro
          have sz_w29 : w.heap.size ≤ w28.heap.size := hs.size
          have nlevel_w29 : w.heap.size < w28.heap.size := Bllevel.lt
          have nls_w29 : w2.heap.size < w28.heap.size := Blls.lt
          have Blls3 : Bx w29 (w28.heap.size) 47 #[.slice arr13 (nthL A k).length krr13] := by rw [hW]; exact (Bx.new0 _ _ _)
          replace hs := hs.trans hbw
          replace rp12 := rowsJ PC.kept _ _ _ rp12 (hG.below0 (Nat.le_refl _))
          replace rr13 := rowsJ RC.kept _ _ _ rr13 (hG.below0 (Nat.le_refl _))
          replace Bllevel := hG.bx Bllevel notMem0
          replace Blls := hG.bx Blls notMem0
          replace Ooa := Ooa.mono PC.kept (hG.below0 (Nat.le_refl _))
          replace Oob := Oob.mono RC.kept (hG.below0 (Nat.le_refl _))
          clear hW hG hk hbw
          have hz_w29 : w28.heap.size < w29.heap.size := Blls3.lt
          obtain ⟨css, ho1, ho2, ho3, hown0⟩ := Oob
          refine wpList_append_lies _ rfl _ _ _ rfl w.heap.size 47 j0 _ 1 24 Tryz.underlying71 hj hy0 hy1 hy2 rfl (by omega) _ _ css.flatten rfl hown0 ⟨w28.heap.size, 0, none⟩ 1 1 [.slice arr13 (nthL A k).length krr13] rfl rfl Blls3.news ?_ (by omega) ?_ ?_ ?_ _ rfl ?_
          · intro u hu; simp only [List.mem_cons, List.mem_nil_iff, or_false] at hu; rcases hu with rfl <;> rfl
          · unfold maxLen; (try simp only [List.length_append, List.length_cons, List.length_nil]); omega
          · (try simp only [List.length_append, List.length_cons, List.length_nil]); omega
          · exact hs.size
          intro gob capob w30 hown1 hgrow hat hlt_
          have hk_ := KeepD.owns hown0 hgrow (by decide)
          have ho := owns_onlyT hown0 hgrow
          replace hs := hs.grown hgrow hs.size (fun k hk => (hown0.lt k hk).1)
          replace Oob := OwnL.push RC.kept ho1 ho2 ho3 (x := (nthL A k)) rr13 (by simp) hown1 ho (by decide) (by decide)
          replace Bllevel := Bllevel.only ho (by decide)
          replace Blls := Blls.only ho (by decide)
          replace rp12 := rp12.onlyT PC.kept ho (by decide) (by decide)
          replace rr13 := rr13.onlyT RC.kept ho (by decide) (by decide)
          replace Ooa := Ooa.onlyT PC.kept ho (by decide) (by decide) (by decide)
          clear hk_ ho ho1 ho2 ho3 hown0 hown1 hgrow hat hlt_ Blls3
          by_cases q14 : rgt A k = true
          · obtain rfl : b5 = true := by rw [Hb5.out]; exact q14
            have q14H := Lib.hid q14
            clear q14
            go_wp2_with fail
            with_reducible refine (r8_chV_all (e := chE (nthL A k)) _ rr13 rfl).mono ?_
            rintro e w31 ⟨rfl, hb⟩
            replace hs := bStep hs hb
            replace Bllevel := Bllevel.mono hb
            replace Blls := Blls.mono hb
            replace Ooa := Ooa.mono PC.kept hb
            replace Oob := Oob.mono RC.kept hb
            replace rp12 := rowsJ PC.kept _ _ _ rp12 hb
            replace rr13 := rowsJ RC.kept _ _ _ rr13 hb
            clear hb
            obtain ⟨sg15, Hsg15⟩ : ∃ s : Int, s = chE (nthL A k) := ⟨_, rfl⟩
            rw [← Hsg15]
            replace Hsg15 := Lib.hid Hsg15
            by_cases q16 : sg15 = 0
            · have q16b : (sg15 == 0) = true := beq_iff_eq.2 (by omega)
              have q16n : (sg15 != 0) = false := bne_eq_false_iff_eq.2 (by omega)
              have q16H := Lib.hid q16
              clear q16
              go_wp2
              go_roundw
              case rel => exact ⟨k + 1, by omega, by go_num, (congrArg _ (show ((lenS A k : Nat) : Int) + (((nthF l k).length : Nat) : Int) = ((lenS A (k + 1) : Nat) : Int) from by show _ = ((lenS A k + (nthL A k).length : Nat) : Int); omega)), (congrArg _ (rgt_T q14H.out (Hsg15.out.symm.trans q16H.out))), hs, Bllevel, Blls, (by rw [baF_take HAE.out (show k < l.length by omega)]; exact Ooa), (by rw [baF_take HAE.out (show k < l.length by omega)]; exact Oob), (okF_next HF.out (by omega) q11H.out)⟩
              all_goals first | (simp [intOf]; done) | (simp [intOf]; omega)
            · have q16b : (sg15 == 0) = false := beq_eq_false_iff_ne.2 (by omega)
              have q16n : (sg15 != 0) = true := bne_iff_ne.2 (by omega)
              have q16H := Lib.hid q16
              clear q16
              go_wp2
              go_roundw
              case rel => exact ⟨k + 1, by omega, by go_num, (congrArg _ (show ((lenS A k : Nat) : Int) + (((nthF l k).length : Nat) : Int) = ((lenS A (k + 1) : Nat) : Int) from by show _ = ((lenS A k + (nthL A k).length : Nat) : Int); omega)), (congrArg _ (rgt_F2 (fun e_ => q16H.out (Hsg15.out.trans e_)))), hs, Bllevel, Blls, (by rw [baF_take HAE.out (show k < l.length by omega)]; exact Ooa), (by rw [baF_take HAE.out (show k < l.length by omega)]; exact Oob), (okF_next HF.out (by omega) q11H.out)⟩
              all_goals first | (simp [intOf]; done) | (simp [intOf]; omega)
          · obtain rfl : b5 = false := by rw [Hb5.out]; simpa using q14
            have q14H := Lib.hid q14
            clear q14
            go_wp2
            go_roundw
            case rel => exact ⟨k + 1, by omega, by go_num, (congrArg _ (show ((lenS A k : Nat) : Int) + (((nthF l k).length : Nat) : Int) = ((lenS A (k + 1) : Nat) : Int) from by show _ = ((lenS A k + (nthL A k).length : Nat) : Int); omega)), (congrArg _ (rgt_F1 q14H.out)), hs, Bllevel, Blls, (by rw [baF_take HAE.out (show k < l.length by omega)]; exact Ooa), (by rw [baF_take HAE.out (show k < l.length by omega)]; exact Oob), (okF_next HF.out (by omega) q11H.out)⟩
            all_goals first | (simp [intOf]; done) | (simp [intOf]; omega)
        · obtain rfl : b10 = false := by rw [Hb10.out]; simpa using q11
          have q11H := Lib.hid q11
          clear q11
          go_wp2
          go_ret
          exact ⟨rfl, hs⟩
    · have q6d : ((k : Int) < (l.length : Int)) = False := eq_false (by omega)
      obtain rfl : k = A.length := by omega
      rw [tkA_all] at Ooa Oob
      have hRa := Ooa.rows
      have hRb := Oob.rows
      clear Ooa Oob lta
      have HSZ := Lib.hid (szF HAE.out (fun i hi => (HF.out i hi).2))
      obtain ⟨aa, ca, rfl, ha1, ha2, -⟩ := hRa.toI.slice
      obtain ⟨ab, cb, rfl, hb1, hb2, -⟩ := hRb.toI.slice
      have q7 : rgt A A.length = true := HR.out
      obtain rfl : b5 = true := by rw [Hb5.out]; exact q7
      have q7H := Lib.hid q7
      clear q7
      have q8 : (lenS A A.length : Nat) ≤ 64 := (by omega)
      have q8d : (((lenS A A.length : Nat) : Int) ≤ 64) = True := eq_true (by omega)
      have q9 : ¬ (12 < (lenS A A.length : Nat)) := (by omega)
      have q9d : ((12 : Int) < ((lenS A A.length : Nat) : Int)) = False := eq_false (by omega)
      have clevel_0 : wr.cell? ⟨w.heap.size, 0, none⟩ = some (.int .i64 n1) := Bllevel.at 0 rfl
      have clevel_1 : wr.cell? ⟨w.heap.size, 1, none⟩ = some (.int .i64 d1) := Bllevel.at 1 rfl
      have Llevel : w.heap.size < wr.heap.size := Bllevel.lt
      go_wp2_with fail
      clear clevel_0 clevel_1 Llevel
      with_reducible refine (l1_OfL _ O1.out HU1.out).mono ?_
      rintro e w25 ⟨_, rfl, h10, hb⟩
      obtain ⟨sh10, ah10, nh10, ch10, Ah10, Nh10, Ch10, rfl⟩ := h10.shape
      replace hs := bStep hs hb
      replace Bllevel := Bllevel.mono hb
      replace Blls := Blls.mono hb
      replace hRa := rowsLJ PC.kept _ _ _ hRa hb
      replace hRb := rowsLJ RC.kept _ _ _ hRb hb
      clear hb
      go_wp2_with fail
      with_reducible refine (al_Pool_all _ hRa h10 (sl.mono (by decide)) HSZ.out HW.out HO.out HW12.out).mono ?_
      rintro e w26 ⟨_, _, rfl, ho11, rfl, hb⟩
      obtain ⟨aho11, kho11, rfl, ho111, ho112, -⟩ := ho11.toI.slice
      replace hs := bStep hs hb
      replace Bllevel := Bllevel.mono hb
      replace Blls := Blls.mono hb
      replace h10 := h10.mono hb
      replace hRa := rowsLJ PC.kept _ _ _ hRa hb
      replace hRb := rowsLJ RC.kept _ _ _ hRb hb
      clear hb
      have clevel_0 : w26.cell? ⟨w.heap.size, 0, none⟩ = some (.int .i64 n1) := Bllevel.at 0 rfl
      have clevel_1 : w26.cell? ⟨w.heap.size, 1, none⟩ = some (.int .i64 d1) := Bllevel.at 1 rfl
      have Llevel : w.heap.size < w26.heap.size := Bllevel.lt
      go_wp2_with fail
      clear clevel_0 clevel_1 Llevel
      with_reducible refine (r1_OfL _ O1.out HU1.out).mono ?_
      rintro e w27 ⟨_, rfl, h12, hb⟩
      obtain ⟨sh12, ah12, nh12, ch12, Ah12, Nh12, Ch12, rfl⟩ := h12.shape
      replace hs := bStep hs hb
      replace Bllevel := Bllevel.mono hb
      replace Blls := Blls.mono hb
      replace h10 := h10.mono hb
      replace hRa := rowsLJ PC.kept _ _ _ hRa hb
      replace hRb := rowsLJ RC.kept _ _ _ hRb hb
      replace ho11 := rowsJ BC.kept _ _ _ ho11 hb
      clear hb
      go_wp2_with fail
      with_reducible refine (r8_Pool_all _ hRb h12 (sl.mono (by decide)) HSZ.out HW.out HO.out HW12.out).mono ?_
      rintro e w28 ⟨_, _, rfl, ho13, rfl, hb⟩
      obtain ⟨aho13, kho13, rfl, ho131, ho132, -⟩ := ho13.toI.slice
      replace hs := bStep hs hb
      replace Bllevel := Bllevel.mono hb
      replace Blls := Blls.mono hb
      replace h10 := h10.mono hb
      replace h12 := h12.mono hb
      replace hRa := rowsLJ PC.kept _ _ _ hRa hb
      replace hRb := rowsLJ RC.kept _ _ _ hRb hb
      replace ho11 := rowsJ BC.kept _ _ _ ho11 hb
      clear hb
      have q14b : (W == W) = true := beq_self_eq_true _
      have q14n : (W != W) = false := bne_self_eq_false _
      go_wp2_with fail
      with_reducible refine (sl_EqB _ ho11 ho13 (by omega)).mono ?_
      rintro e w29 ⟨rfl, hb⟩
      replace hs := bStep hs hb
      replace Bllevel := Bllevel.mono hb
      replace Blls := Blls.mono hb
      replace h10 := h10.mono hb
      replace h12 := h12.mono hb
      replace hRa := rowsLJ PC.kept _ _ _ hRa hb
      replace hRb := rowsLJ RC.kept _ _ _ hRb hb
      replace ho11 := rowsJ BC.kept _ _ _ ho11 hb
      replace ho13 := rowsJ BC.kept _ _ _ ho13 hb
      clear hb
      go_wp2
      go_ret
      exact ⟨rfl, hs⟩

theorem l8_AllowPools (v : Value) (l : LF) (n1 d1 : Int) (w : World) (hl : RowsI 1 (LRI 2 FC) w v l) (hlo : ∀ m ∈ l, ∀ x ∈ m, DOk x) (o1 : DOk (n1, d1)) :
    Calls Tryz.prog 6 #[v, .agg #[.int .i64 n1, .int .i64 d1]] w (RetV w (.bool true)) := by
  by_cases h1 : 20 < l.length
  · exact l8_Pools_b1 v l n1 d1 w hl h1
  · by_cases hT : [(n1, d1)].all smF8 = true
    · have sl : SzQ 1 (fracQ n1 d1) := smF8_sz (List.all_eq_true.1 hT _ (by simp))
      have la : (baF l).length = l.length := by simp [baF]
      have lo : (poolO (fracQ n1 d1) (baF l)).length ≤ 20 := by
        unfold poolO
        split
        · rw [okS_len]; omega
        · simp
      have h4 : ¬ rgt (baF l) (baF l).length = true → poolE (fracQ n1 d1) (baF l) = 4 := fun h => by
        refine poolE_four ?_
        rw [rgt_iff] at h
        by_cases a : (baF l).length < 1
        · exact .inl a
        · by_cases b : 16 < (baF l).length
          · exact .inr (.inl b)
          · exact .inr (.inr (.inl fun hh => h ⟨⟨by omega, by omega⟩, hh⟩))
      by_cases hr : rgt (baF l) (baF l).length = true
      · obtain ⟨⟨r1, r2⟩, r3⟩ := (rgt_iff _ _).1 hr
        have r0 := rgt_one (A := baF l) ⟨r1, r2⟩
        by_cases h64 : 64 < lenS (baF l) (baF l).length
        · exact l8_Pools_m3 v l n1 d1 w hl (by omega) (by omega) hT hlo o1 _ rfl (by omega) (by omega) _ rfl sl _ _ rfl rfl lo r0 (fun e => by rw [poolE_four (.inr (.inr (.inr h64)))] at e; cases e) hr h64
        · by_cases h12 : 12 < lenS (baF l) (baF l).length
          · exact l8_Pools_m4 v l n1 d1 w hl (by omega) (by omega) hT hlo o1 _ rfl (by omega) (by omega) _ rfl sl 0 [] (by simp) r0 hr (by omega) h12
          · exact l8_Pools_m5 v l n1 d1 w hl (by omega) (by omega) hT hlo o1 _ rfl (by omega) (by omega) _ rfl sl _ _ rfl rfl lo r0 (fun _ => by omega) hr (by omega)
      · have e4 := h4 hr
        have h12 : poolE (fracQ n1 d1) (baF l) = 0 → lenS (baF l) (baF l).length ≤ 12 := fun e => by rw [e4] at e; cases e
        by_cases c1 : l.length < 1
        · exact l8_Pools_m0 v l n1 d1 w hl c1 hT hlo o1 _ rfl (by omega) (by omega) _ rfl sl _ _ rfl rfl lo (rgt_zero (by omega)) h12 hr
        · by_cases c2 : 16 < l.length
          · exact l8_Pools_m1 v l n1 d1 w hl c2 (by omega) hT hlo o1 _ rfl (by omega) (by omega) _ rfl sl _ _ rfl rfl lo (rgt_zero (by omega)) h12 hr
          · exact l8_Pools_m2 v l n1 d1 w hl (by omega) (by omega) hT hlo o1 _ rfl (by omega) (by omega) _ rfl sl _ _ rfl rfl lo (rgt_one (by omega)) h12 hr
    · exact l8_Pools_b2 v l n1 d1 w hl (by omega) hT
end Go.Proofs.YtmnipggjjcmjkaaGreat
