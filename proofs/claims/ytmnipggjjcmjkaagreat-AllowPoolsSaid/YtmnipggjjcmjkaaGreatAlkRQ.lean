/-
  Reference 08: below, ranks, rankSum, distance, Values, Two.
-/
import Derived.Test.YtmnipggjjcmjkaaGreatSame0Q
import Derived.Test.YtmnipggjjcmjkaaGreatPkAlRQ
set_option linter.unusedSimpArgs false
set_option linter.unusedVariables false
namespace Go.Proofs.YtmnipggjjcmjkaaGreat
open Go.RowKit Dg
attribute [local go_sem ↓] Go.wp_at_zero Go.wp_at_succ

/-- How many of the first k are below x; are equal to it. -/
def lsF (L : List Rat) (x : Rat) : Nat → Int
  | 0 => 0
  | k + 1 => lsF L x k + if nthQ L k < x then 1 else 0
def eqF (L : List Rat) (x : Rat) : Nat → Int
  | 0 => 0
  | k + 1 => eqF L x k + if nthQ L k = x then 1 else 0
theorem ls_bd (L : List Rat) (x : Rat) : ∀ k, 0 ≤ lsF L x k ∧ lsF L x k ≤ k ∧ 0 ≤ eqF L x k ∧ eqF L x k ≤ k
  | 0 => by simp [lsF, eqF]
  | k + 1 => by
    have ih := ls_bd L x k
    have a : lsF L x (k + 1) = lsF L x k + if nthQ L k < x then 1 else 0 := rfl
    have b : eqF L x (k + 1) = eqF L x k + if nthQ L k = x then 1 else 0 := rfl
    rw [a, b]
    constructor
    · split <;> omega
    · constructor
      · split <;> omega
      · constructor <;> split <;> omega
theorem ls_yes {L : List Rat} {x : Rat} {k : Nat} (h : nthQ L k < x) : lsF L x (k + 1) = lsF L x k + 1 ∧ eqF L x (k + 1) = eqF L x k := by
  have e : ¬ nthQ L k = x := fun e => by rw [e] at h; exact Rat.lt_irrefl h
  constructor
  · show lsF L x k + (if nthQ L k < x then 1 else 0) = _; rw [if_pos h]
  · show eqF L x k + (if nthQ L k = x then 1 else 0) = _; rw [if_neg e]; omega
theorem ls_eq {L : List Rat} {x : Rat} {k : Nat} (h : ¬ nthQ L k < x) (e : nthQ L k = x) : lsF L x (k + 1) = lsF L x k ∧ eqF L x (k + 1) = eqF L x k + 1 := by
  constructor
  · show lsF L x k + (if nthQ L k < x then 1 else 0) = _; rw [if_neg h]; omega
  · show eqF L x k + (if nthQ L k = x then 1 else 0) = _; rw [if_pos e]
theorem ls_no {L : List Rat} {x : Rat} {k : Nat} (h : ¬ nthQ L k < x) (e : ¬ nthQ L k = x) : lsF L x (k + 1) = lsF L x k ∧ eqF L x (k + 1) = eqF L x k := by
  constructor
  · show lsF L x k + (if nthQ L k < x then 1 else 0) = _; rw [if_neg h]; omega
  · show eqF L x k + (if nthQ L k = x then 1 else 0) = _; rw [if_neg e]; omega
theorem ls_rank (L : List Rat) (x : Rat) : ∀ k, 1 + 2 * lsF L x k + eqF L x k = rnS L x k
  | 0 => rfl
  | k + 1 => by
    have ih := ls_rank L x k
    show _ = rnS L x k + max (1 + sgQ (x - nthQ L k)) 0
    rcases tri3 (nthQ L k) x with h | h | h
    · obtain ⟨a, b⟩ := ls_yes h
      rw [a, b, sg_pos (show 0 < x - nthQ L k by grind)]; omega
    · obtain ⟨a, b⟩ := ls_eq (x := x) (k := k) (L := L) (by rw [h]; exact Rat.lt_irrefl) h
      rw [a, b, sg_zero (show x - nthQ L k = 0 by grind)]; omega
    · obtain ⟨a, b⟩ := ls_no (x := x) (k := k) (L := L) (by grind) (by grind)
      rw [a, b, sg_neg (show x - nthQ L k < 0 by grind)]; omega

set_option maxRecDepth 100000 in
set_option maxHeartbeats 4000000 in
theorem r8_below {v vx : Value} {L : List Rat} {x : Rat} (w : World) (hl : Rows 3 36 RC w v L) (h1 : 1 ≤ L.length) (h20 : L.length ≤ 20) (hz : ∀ i, i < L.length → SzQ 100000 (nthQ L i)) (hx : RV w vx x) (sx : SzQ 100000 x) {a b : Int} (ha : lsF L x L.length = a) (hb : eqF L x L.length = b) : Calls Tryz.prog 120 #[v, vx] w (RetV w (.tuple #[.int .i64 a, .int .i64 b])) := by
  obtain ⟨bhl, ohl, khl, rfl, hl1, hl2, -⟩ := hl.open_ (by omega)
  obtain ⟨shx, ahx, nhx, chx, Ahx, Nhx, Chx, rfl⟩ := hx.shape
  have HLZ := Lib.hid hz
  have HA := Lib.hid ha
  have HB := Lib.hid hb
  clear hz ha hb
  have hs := Below.refl w.heap.size w
  go_enter Tryz.func120, Tryz.ntmps120
  go_wp2
  refine Code.abs ?_
  intro w1 hW
  have hG : Gr [] w w1 := by rw [hW]; exact (Gr.refl _ _).alloc
  have hbw : Below w.heap.size w w1 := hG.below0 hs.size
  have hk : KeepD w w1 := hG.keep True.intro
  have sz_w1 : w.heap.size ≤ w.heap.size := hs.size
  have nhl_w1 : bhl < w.heap.size := hl.lt (by omega)
  have Blx : Bx w1 (w.heap.size) 36 #[.bool shx, .slice ahx nhx chx, .slice Ahx Nhx Chx] := by rw [hW]; exact (Bx.new0 _ _ _)
  replace hs := hs.trans hbw
  replace hl := rowsJ RC.kept _ _ _ hl (hG.below0 (Nat.le_refl _))
  replace hx := hx.keep hk
  clear hW hG hk hbw
  have hz_w1 : w.heap.size < w1.heap.size := Blx.lt
  go_loopw [6, 7, 8] (fun s6 s7 s8 wq => ∃ k : Nat, k ≤ L.length ∧ s8 = .int .i64 k ∧ s6 = .int .i64 (lsF L x k) ∧ s7 = .int .i64 (eqF L x k) ∧ Below w.heap.size w wq ∧ Bx wq (w.heap.size) 36 #[.bool shx, .slice ahx nhx chx, .slice Ahx Nhx Chx] ∧ RV wq (.agg #[.bool shx, .slice ahx nhx chx, .slice Ahx Nhx Chx]) (x) ∧ Rows 3 36 RC wq (.slice (some ⟨bhl, ohl, none⟩) L.length khl) L) (fun s6 s7 s8 _ => L.length - (intOf s8).toNat)
  case atStart => exact ⟨0, Nat.zero_le _, rfl, rfl, rfl, hs, Blx, hx, hl⟩
  case round =>
    clear Blx hx hl hs
    obtain ⟨k, k_le, rfl, rfl, rfl, hs, Blx, hx, hl⟩ := hrel
    obtain ⟨lb1, lb2, lb3, lb4⟩ := ls_bd L x k
    by_cases q1 : k < L.length
    · have q1d : ((k : Int) < (L.length : Int)) = True := eq_true (by omega)
      go_upto_region 5 with fail
      have BI2a : k < L.length := by omega
      have BI2b : ((k : Int) : Int) < (L.length : Int) := by omega
      obtain ⟨ge3a, ae3a, ne3a, ce3a, Ae3a, Ne3a, De3a, Ee30, Ee31, Ee32, he3a, le3⟩ := rowR_at hl (show k < L.length by omega)
      obtain ⟨sg4, Hsg4⟩ : ∃ s : Int, s = sgQ ((nthQ L k) - x) := ⟨_, rfl⟩
      replace Hsg4 := Lib.hid Hsg4
      refine U_region (S := fun w' => w'.cell? ⟨w.heap.size, 0, none⟩ = some (.bool shx) ∧ w'.cell? ⟨w.heap.size, 1, none⟩ = some (.slice ahx nhx chx) ∧ w'.cell? ⟨w.heap.size, 2, none⟩ = some (.slice Ahx Nhx Chx) ∧ w'.cell? ⟨bhl, ohl + k * 3, none⟩ = some (.bool ge3a) ∧ w'.cell? ⟨bhl, ohl + k * 3 + 1, none⟩ = some (.slice ae3a ne3a ce3a) ∧ w'.cell? ⟨bhl, ohl + k * 3 + 2, none⟩ = some (.slice Ae3a Ne3a De3a)) (by kernel_rfl) 7 ?_
      refine AnyU.abs ?_
      intro w22 hW
      have hb : Below wr.heap.size wr w22 := by rw [hW]; exact bDrew _
      replace hs := bStep hs hb
      replace Blx := Blx.mono hb
      replace hx := hx.mono hb
      replace he3a := he3a.mono hb
      replace hl := rowsJ RC.kept _ _ _ hl hb
      replace Ee30 := cellK Ee30 hb
      replace Ee31 := cellK Ee31 hb
      replace Ee32 := cellK Ee32 hb
      clear hb hW
      have cx_0 : w22.cell? ⟨w.heap.size, 0, none⟩ = some (.bool shx) := Blx.at 0 rfl
      have cx_1 : w22.cell? ⟨w.heap.size, 1, none⟩ = some (.slice ahx nhx chx) := Blx.at 1 rfl
      have cx_2 : w22.cell? ⟨w.heap.size, 2, none⟩ = some (.slice Ahx Nhx Chx) := Blx.at 2 rfl
      have hH := (show w22.cell? ⟨w.heap.size, 0, none⟩ = some (.bool shx) ∧ w22.cell? ⟨w.heap.size, 1, none⟩ = some (.slice ahx nhx chx) ∧ w22.cell? ⟨w.heap.size, 2, none⟩ = some (.slice Ahx Nhx Chx) ∧ w22.cell? ⟨bhl, ohl + k * 3, none⟩ = some (.bool ge3a) ∧ w22.cell? ⟨bhl, ohl + k * 3 + 1, none⟩ = some (.slice ae3a ne3a ce3a) ∧ w22.cell? ⟨bhl, ohl + k * 3 + 2, none⟩ = some (.slice Ae3a Ne3a De3a) from ⟨cx_0, cx_1, cx_2, Ee30, Ee31, Ee32⟩)
      refine U_tk 0 16 ?_ ?_ hH ?_
      rotate_left
      · (intro w hSw; (try dsimp only at hSw); go_simp; try with_reducible rfl)
      simp only [LY]
      refine U_tk 1 17 ?_ ?_ hH ?_
      rotate_left
      · (intro w hSw; (try dsimp only at hSw); go_simp; try with_reducible rfl)
      simp only [LY]
      refine U_tk 2 18 ?_ ?_ hH ?_
      rotate_left
      · (intro w hSw; (try dsimp only at hSw); go_simp; try with_reducible rfl)
      simp only [LY]
      refine U_tk 3 19 ?_ ?_ hH ?_
      rotate_left
      · (intro w hSw; (try dsimp only at hSw); go_simp; try with_reducible rfl)
      simp only [LY]
      refine U_tk 4 20 ?_ ?_ hH ?_
      rotate_left
      · (intro w hSw; (try dsimp only at hSw); go_simp; try with_reducible rfl)
      simp only [LY]
      clear hH
      refine U_one (i := 5) (by kernel_rfl) rfl (fun K hK => ?_)
      go_simp
      (with_reducible refine (rCmp he3a hx (SzQ.fit (HLZ.out k (by omega))) (SzQ.fit sx)).mono ?_)
      rintro e w23 ⟨rfl, hb⟩
      replace hs := bStep hs hb
      replace Blx := Blx.mono hb
      replace hx := hx.mono hb
      replace he3a := he3a.mono hb
      replace hl := rowsJ RC.kept _ _ _ hl hb
      replace cx_0 := cellK cx_0 hb
      replace cx_1 := cellK cx_1 hb
      replace cx_2 := cellK cx_2 hb
      replace Ee30 := cellK Ee30 hb
      replace Ee31 := cellK Ee31 hb
      replace Ee32 := cellK Ee32 hb
      clear hb
      rw [← Hsg4.out]
      try go_wp2_with fail
      refine hK.out _ _ ⟨cx_0, cx_1, cx_2, Ee30, Ee31, Ee32⟩ (fun hH => ?_)
      clear hK K
      try simp only [LY]
      refine U_tk 6 9 ?_ ?_ hH ?_
      rotate_left
      · (intro w hSw; (try dsimp only at hSw); go_simp; try with_reducible rfl)
      simp only [LY]
      clear hH
      refine U_endN (by kernel_rfl) ?_
      clear cx_0 cx_1 cx_2 Ee30 Ee31 Ee32
      by_cases q5 : nthQ L k < x
      · have q5_ : sg4 < 0 := by have h := sq_lt (nthQ L k) x; rw [← Hsg4.out] at h; exact h.2 q5
        have q5H := Lib.hid q5
        clear q5
        have q5d : decide (sg4 < 0) = true := decide_eq_true q5_
        go_wp2
        go_roundw
        case rel => exact ⟨k + 1, by omega, by go_num, (congrArg _ (by rw [(ls_yes q5H.out).1])), (congrArg _ (by rw [(ls_yes q5H.out).2])), hs, Blx, hx, hl⟩
        all_goals first | (simp [intOf]; done) | (simp [intOf]; omega)
      · have q5_ : ¬ (sg4 < 0) := by have h := sq_lt (nthQ L k) x; rw [← Hsg4.out] at h; exact fun h1 => q5 (h.1 h1)
        have q5H := Lib.hid q5
        clear q5
        have q5d : decide (sg4 < 0) = false := decide_eq_false q5_
        by_cases q6 : nthQ L k = x
        · have q6_ : sg4 = 0 := by have h := sq_eq (nthQ L k) x; rw [← Hsg4.out] at h; exact h.2 q6
          have q6H := Lib.hid q6
          clear q6
          have q6b : (sg4 == 0) = true := by rw [q6_]; rfl
          have q6n : (sg4 != 0) = false := by rw [q6_]; rfl
          clear q6_
          go_wp2
          go_roundw
          case rel => exact ⟨k + 1, by omega, by go_num, (congrArg _ (by rw [(ls_eq q5H.out q6H.out).1])), (congrArg _ (by rw [(ls_eq q5H.out q6H.out).2])), hs, Blx, hx, hl⟩
          all_goals first | (simp [intOf]; done) | (simp [intOf]; omega)
        · have q6_ : ¬ (sg4 = 0) := by have h := sq_eq (nthQ L k) x; rw [← Hsg4.out] at h; exact fun h1 => q6 (h.1 h1)
          have q6H := Lib.hid q6
          clear q6
          have q6b : (sg4 == 0) = false := by simpa using q6_
          have q6n : (sg4 != 0) = true := by simpa using q6_
          go_wp2
          go_roundw
          case rel => exact ⟨k + 1, by omega, by go_num, (congrArg _ (by rw [(ls_no q5H.out q6H.out).1])), (congrArg _ (by rw [(ls_no q5H.out q6H.out).2])), hs, Blx, hx, hl⟩
          all_goals first | (simp [intOf]; done) | (simp [intOf]; omega)
    · have q1d : ((k : Int) < (L.length : Int)) = False := eq_false (by omega)
      obtain rfl : k = L.length := by omega
      go_wp2
      go_ret2
      exact ⟨by rw [← HA.out, ← HB.out]; rfl, hs⟩

set_option maxRecDepth 100000 in
set_option maxHeartbeats 4000000 in
theorem r8_distance {n d : Int} (w : World) (h1 : -1000000 ≤ n) (h2 : n ≤ 1000000) (hd : max n (-n) = d) : Calls Tryz.prog 133 #[.int .i64 n] w (RetV w (.int .i64 d)) := by
  have HD := Lib.hid hd
  clear hd
  have hs := Below.refl w.heap.size w
  go_enter Tryz.func133, Tryz.ntmps133
  go_wp2
  go_ret
  exact ⟨by rw [← HD.out]; rfl, hs⟩

set_option maxRecDepth 100000 in
set_option maxHeartbeats 4000000 in
theorem r8_rankSum {v : Value} {R : List Int} {m : Nat} (w : World) (hl : Rows 1 3 IC w v R) (h1 : 1 ≤ R.length) (h20 : R.length ≤ 20) (hm : m ≤ R.length) (hR : ∀ x ∈ R, 0 ≤ x ∧ x ≤ 1000) {t : Int} (ht : totS R m = t) : Calls Tryz.prog 82 #[v, .int .i64 m] w (RetV w (.int .i64 t)) := by
  obtain ⟨bhl, ohl, khl, rfl, hl1, hl2, -⟩ := hl.open_ (by omega)
  have HRB := Lib.hid hR
  have HT := Lib.hid ht
  clear hR ht
  have hs := Below.refl w.heap.size w
  go_enter Tryz.func82, Tryz.ntmps82
  go_wp2
  go_loopw [5, 6] (fun s5 s6 wq => ∃ k : Nat, k ≤ m ∧ s6 = .int .i64 k ∧ s5 = .int .i64 (totS R k) ∧ Below w.heap.size w wq ∧ Rows 1 3 IC wq (.slice (some ⟨bhl, ohl, none⟩) R.length khl) R) (fun s5 s6 _ => m - (intOf s6).toNat)
  case atStart => exact ⟨0, Nat.zero_le _, rfl, rfl, hs, hl⟩
  case round =>
    clear hl hs
    obtain ⟨k, k_le, rfl, rfl, hs, hl⟩ := hrel
    obtain ⟨tb1, tb2⟩ := totS_bd HRB.out k (by omega)
    by_cases q1 : k < m
    · have q1d : ((k : Int) < (m : Int)) = True := eq_true (by omega)
      have BI2a : k < R.length := by omega
      have BI2b : ((k : Int) : Int) < (R.length : Int) := by omega
      obtain ⟨Ee30, le3⟩ := rowI_at hl (show k < R.length by omega)
      simp only [Nat.mul_one] at Ee30
      obtain ⟨ie3, Hie3⟩ : ∃ z : Int, z = nthI R k := ⟨_, rfl⟩
      rw [← Hie3] at Ee30
      obtain ⟨bie31, bie32⟩ : 0 ≤ ie3 ∧ ie3 ≤ 1000 := by rw [Hie3]; exact HRB.out _ (List.mem_of_getElem? (nthI_some (show k < R.length by omega)))
      replace Hie3 := Lib.hid Hie3.symm
      go_wp2
      go_roundw
      case rel => exact ⟨k + 1, by omega, by go_num, (congrArg _ (by rw [← Hie3.out]; rfl)), hs, hl⟩
      all_goals first | (simp [intOf]; done) | (simp [intOf]; omega)
    · have q1d : ((k : Int) < (m : Int)) = False := eq_false (by omega)
      obtain rfl : k = m := by omega
      go_wp2
      go_ret
      exact ⟨by rw [← HT.out]; rfl, hs⟩

theorem int_info8 : (Tryz.prog.info? 3).map (fun i => (i.zero, i.size, i.bytes)) = some (some (.int .i64 0), 1, 8) := by kernel_rfl
theorem VecR.made1 {α : Type} {w : World} {g : Nat} {base : Nat} {T : TypeId} {n : Nat} {z0 : Value} {R : World → List Value → α → Prop} {x : α} (h : w.ownsRow base T 1 (.slice (some ⟨g, 0, none⟩) n n) n (madeCells #[z0] (n * 1)).toList) (hn : 0 < n) (hx : R w [z0] x) : VecR T 1 R w g (List.replicate n x) := by
  obtain ⟨h1, h2⟩ := h
  rcases h2 with ⟨e, _⟩ | ⟨g', cap, cur, hv, _, hg, _, _, hs, ht⟩
  · cases e
  · injection hv with e1 e2 e3
    injection e1 with e1
    injection e1 with e1 _
    subst e1 e3
    refine ⟨List.replicate n [z0], by simp, fun cs hcs => ?_, fun i cs y hc hy => ?_, ?_⟩
    · rw [(List.mem_replicate.1 hcs).2]; rfl
    · have h1 := List.mem_of_getElem? hc
      have h2 := List.mem_of_getElem? hy
      rw [(List.mem_replicate.1 h1).2, (List.mem_replicate.1 h2).2]; exact hx
    · unfold Bx
      have e : cur = (List.replicate n [z0]).flatten.toArray := by
        apply Array.toList_inj.1
        rw [List.toList_toArray]
        have hl : (List.replicate n [z0]).flatten.length = n * 1 := by
          rw [flat_length (size := 1) _ (fun cs hcs => by rw [(List.mem_replicate.1 hcs).2]; rfl), List.length_replicate]
        rw [List.take_of_length_le (by rw [Array.length_toList]; omega)] at ht
        rw [ht]
        refine List.ext_getElem? fun j => ?_
        by_cases hj : j < n * 1
        · rw [made_at hj]
          have hq : (List.replicate n [z0])[j]? = some [z0] := by rw [List.getElem?_replicate, if_pos (by omega)]
          have := flat_get (size := 1) _ (fun cs hcs => by rw [(List.mem_replicate.1 hcs).2]; rfl) j 0 _ hq (by decide)
          rw [Nat.mul_one, Nat.add_zero] at this
          rw [this]
          show some (#[z0][j % 1]!) = _
          rw [Nat.mod_one]; rfl
        · rw [List.getElem?_eq_none (by rw [Array.length_toList, size_madeCells]; omega), List.getElem?_eq_none (by rw [hl]; omega)]
      rw [← e]; exact hg
theorem vecI_at {w : World} {T : TypeId} {g : Nat} {L : List Int} {i : Nat} (h : VecR T 1 IC w g L) (hi : i < L.length) : w.cell? ⟨g, i, none⟩ = some (.int .i64 (nthI L i)) ∧ g < w.heap.size := by
  obtain ⟨cs, _, hr, hat⟩ := h.cell (nthI_some hi)
  subst hr
  have := hat 0 _ rfl
  rw [Nat.mul_one, Nat.add_zero] at this
  exact ⟨this, h.lt⟩
/-- The ranks as the list grows. -/
def rkV (L : List Rat) (i : Nat) : List Int := (List.range L.length).map fun j => if j < i then rnS L (nthQ L j) L.length else 0
theorem rkV_len (L : List Rat) (i : Nat) : (rkV L i).length = L.length := by simp [rkV]
theorem rkV_zero (L : List Rat) : List.replicate L.length (0 : Int) = rkV L 0 := by
  refine List.ext_getElem? fun x => ?_
  unfold rkV
  rw [List.getElem?_map, List.getElem?_replicate]
  by_cases h : x < L.length
  · rw [List.getElem?_range h, if_pos h]; simp
  · rw [if_neg h, List.getElem?_eq_none (by simp; omega)]; rfl
theorem rkV_all (L : List Rat) : rkV L L.length = rkT L L.length := by
  unfold rkV rkT
  refine List.map_congr_left fun x hx => ?_
  rw [if_pos (List.mem_range.1 hx)]
theorem rkV_set {L : List Rat} {i : Nat} (h : i < L.length) {z : Int} (hz : rnS L (nthQ L i) L.length = z) : (rkV L i).set i z = rkV L (i + 1) := by
  refine List.ext_getElem? fun y => ?_
  rw [List.getElem?_set]
  unfold rkV
  by_cases hy : y < L.length
  · rw [List.getElem?_map, List.getElem?_map, List.getElem?_range hy]
    by_cases e : i = y
    · subst e
      rw [if_pos rfl, if_pos (by simpa using hy)]
      simp [hz]
    · rw [if_neg e]
      simp only [Option.map_some, Option.some.injEq]
      by_cases h1 : y < i
      · rw [if_pos h1, if_pos (by omega)]
      · rw [if_neg h1, if_neg (by omega)]
  · rw [List.getElem?_eq_none (by simp; omega), List.getElem?_eq_none (by simp; omega)]
    split
    · split
      · exfalso; rename_i a b; simp at b; omega
      · rfl
    · rfl

set_option maxRecDepth 100000 in
set_option maxHeartbeats 16000000 in
theorem r8_ranks {v : Value} {L : List Rat} (w : World) (hl : Rows 3 36 RC w v L) (h1 : 1 ≤ L.length) (h20 : L.length ≤ 20) (hz : ∀ i, i < L.length → SzQ 100000 (nthQ L i)) : Calls Tryz.prog 83 #[v] w (Ret1 (fun w v => Rows 1 3 IC w v (rkT L L.length)) w) := by
  obtain ⟨bhl, ohl, khl, rfl, hl1, hl2, -⟩ := hl.open_ (by omega)
  have HLZ := Lib.hid hz
  clear hz
  have hs := Below.refl w.heap.size w
  obtain ⟨i0, hi, hz0, hz1, hz2⟩ := info_parts int_info8
  go_enter Tryz.func83, Tryz.ntmps83
  go_wp2_with (at_make; refine wpList.stop ?_)
  refine ⟨?_⟩
  refine wpList_make_full _ rfl _ _ _ rfl w.heap.size 3 i0 _ 1 Tryz.underlying132 hi hz0 hz1 _ _ _ _ (L.length) rfl rfl (by omega) (by omega) (by rw [hz2]; omega) (by unfold maxLen; omega) hs.size ?_
  intro w1 hown hgrow
  have hb : Below w.heap.size w w1 := (Below.refl _ _).grown hgrow (Nat.le_refl _) (fun k hk => by cases hk)
  have hv_ou : w.heap.size ≤ w.heap.size := hs.size
  have nhl_w1 : bhl < w.heap.size := hl.lt (by omega)
  replace hs := bStep hs hb
  replace hl := rowsJ RC.kept _ _ _ hl hb
  clear hb
  have Vou : VecR 3 1 IC w1 (w.heap.size) (rkV L 0) := by rw [← rkV_zero]; exact VecR.made1 hown (by omega) rfl
  clear hown hgrow
  have Lv_ou : w.heap.size < w1.heap.size := Vou.lt
  go_wp2
  go_loopw [4] (fun s4 wq => ∃ k : Nat, k ≤ L.length ∧ s4 = .int .i64 k ∧ Below w.heap.size w wq ∧ Rows 3 36 RC wq (.slice (some ⟨bhl, ohl, none⟩) L.length khl) L ∧ (VecR 3 1 IC wq (w.heap.size) (rkV L k))) (fun s4 _ => L.length - (intOf s4).toNat)
  case atStart => exact ⟨0, Nat.zero_le _, rfl, hs, hl, Vou⟩
  case round =>
    clear hl hs
    obtain ⟨k, k_le, rfl, hs, hl, Vou⟩ := hrel
    replace Vou := Lib.hid Vou
    replace Vou := Vou.out
    by_cases q1 : k < L.length
    · have q1d : ((k : Int) < (L.length : Int)) = True := eq_true (by omega)
      have BI2a : k < L.length := by omega
      have BI2b : ((k : Int) : Int) < (L.length : Int) := by omega
      obtain ⟨ge3a, ae3a, ne3a, ce3a, Ae3a, Ne3a, De3a, Ee30, Ee31, Ee32, he3a, le3⟩ := rowR_at hl (show k < L.length by omega)
      go_wp2_with fail
      clear le3 Ee30 Ee31 Ee32
      obtain ⟨la4, Hla4⟩ : ∃ z : Int, lsF L (nthQ L k) L.length = z := ⟨_, rfl⟩
      obtain ⟨lb5, Hlb5⟩ : ∃ z : Int, eqF L (nthQ L k) L.length = z := ⟨_, rfl⟩
      obtain ⟨xla41, xla42, xla43, xla44⟩ := ls_bd L (nthQ L k) L.length
      rw [Hla4] at xla41 xla42
      rw [Hlb5] at xla43 xla44
      replace Hla4 := Lib.hid Hla4
      replace Hlb5 := Lib.hid Hlb5
      with_reducible refine (r8_below _ hl h1 h20 HLZ.out he3a (HLZ.out k (by omega)) Hla4.out Hlb5.out).mono ?_
      rintro e w22 ⟨rfl, hb⟩
      replace hs := bStep hs hb
      replace he3a := he3a.mono hb
      replace hl := rowsJ RC.kept _ _ _ hl hb
      replace Vou := VecR.mono IC.kept Vou hb
      clear hb
      obtain ⟨Ee60, le6⟩ := vecI_at Vou (show k < (rkV L k).length by (rw [rkV_len]; omega))
      obtain ⟨ie6, Hie6⟩ : ∃ z : Int, z = nthI (rkV L k) k := ⟨_, rfl⟩
      rw [← Hie6] at Ee60
      replace Hie6 := Lib.hid Hie6.symm
      have fVou := Vou.free
      have LVou : w.heap.size < w22.heap.size := Vou.lt
      go_upto_region 4 with fail
      clear fVou LVou le6 Ee60
      refine Code.abs ?_
      intro w23 hW
      have hG : Gr [w.heap.size] w22 w23 := by rw [hW]; exact (Gr.refl _ _).set
      have hsz := hs.size
      have hbw : Below w.heap.size w22 w23 := hG.below1 hs.size (by first | omega | assumption)
      have hk : KeepD w22 w23 := hG.keep ⟨⟨_, Vou.ty, by decide⟩, True.intro⟩
      have V1ou : VecR 3 1 IC w23 (w.heap.size) ((rkV L k).set k (1 + 2 * la4 + lb5)) := by rw [hW]; exact (Vou.put1 IC.kept (show k < (rkV L k).length by (rw [rkV_len]; omega)) (by decide) rfl ((Gr.refl _ _)))
      rw [rkV_set (show k < L.length by omega) (show rnS L (nthQ L k) L.length = 1 + 2 * la4 + lb5 by rw [← ls_rank, Hla4.out, Hlb5.out])] at V1ou
      replace hs := hs.trans hbw
      replace hl := hl.onlyT RC.kept (hG.onlyT (by intro g hg; simp only [List.mem_cons, List.mem_nil_iff, or_false] at hg; rcases hg with rfl <;> first | exact Vou.ty)) (by decide) (by decide)
      replace Vou := V1ou
      clear V1ou
      replace he3a := he3a.keep hk
      clear hW hG hk hbw hsz
      go_wp2
      go_roundw
      case rel => exact ⟨k + 1, by omega, by go_num, hs, hl, Vou⟩
      all_goals first | (simp [intOf]; done) | (simp [intOf]; omega)
    · have q1d : ((k : Int) < (L.length : Int)) = False := eq_false (by omega)
      obtain rfl : k = L.length := by omega
      go_wp2
      have hR := Vou.rows (by rw [rkV_len]; omega)
      rw [rkV_len, rkV_all] at hR
      go_ret
      exact ⟨_, rfl, hR, hs⟩

end Go.Proofs.YtmnipggjjcmjkaaGreat
