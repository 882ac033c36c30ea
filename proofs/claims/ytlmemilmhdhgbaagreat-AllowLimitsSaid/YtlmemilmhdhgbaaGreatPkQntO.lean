/-
  Reference 08: below.
-/
import Derived.Test.YtlmemilmhdhgbaaGreatSame0O
import Derived.Test.YtlmemilmhdhgbaaGreatPkAlRO
import Derived.Test.YtlmemilmhdhgbaaGreatPkOrdO
set_option linter.unusedSimpArgs false
set_option linter.unusedVariables false
set_option maxRecDepth 100000
set_option maxHeartbeats 4000000
namespace Go.Proofs.YtlmemilmhdhgbaaGreat
open Go.RowKit Dg
attribute [local go_sem ↓] Go.wp_at_zero Go.wp_at_succ
def lsF (L : List Rat) (x : Rat) : Nat → Int
 | 0 => 0
 | k + 1 => lsF L x k + if nthQ L k < x then 1 else 0
def eqF (L : List Rat) (x : Rat) : Nat → Int
 | 0 => 0
 | k + 1 => eqF L x k + if nthQ L k = x then 1 else 0
theorem ls_bd (L : List Rat) (x : Rat) : ∀ k, 0 ≤ lsF L x k ∧ lsF L x k ≤ k ∧ 0 ≤ eqF L x k ∧ eqF L x k ≤ k
 | 0 => by simp [lsF, eqF]
 | k + 1 => by
  have ih := ls_bd L x k
  have a : lsF L x (k + 1) = lsF L x k + if nthQ L k < x then 1 else 0 := rfl
  have b : eqF L x (k + 1) = eqF L x k + if nthQ L k = x then 1 else 0 := rfl
  rw [a, b]
  constructor
  ·split <;> omega
  ·constructor
   ·split <;> omega
   ·constructor <;> split <;> omega
theorem ls_yes {L : List Rat} {x : Rat} {k : Nat} (h : nthQ L k < x) : lsF L x (k + 1) = lsF L x k + 1 ∧ eqF L x (k + 1) = eqF L x k := by
 have e : ¬ nthQ L k = x := fun e => by rw [e] at h; exact Rat.lt_irrefl h
 constructor
 ·show lsF L x k + (if nthQ L k < x then 1 else 0) = _; rw [if_pos h]
 ·show eqF L x k + (if nthQ L k = x then 1 else 0) = _; rw [if_neg e]; omega
theorem ls_eq {L : List Rat} {x : Rat} {k : Nat} (h : ¬ nthQ L k < x) (e : nthQ L k = x) : lsF L x (k + 1) = lsF L x k ∧ eqF L x (k + 1) = eqF L x k + 1 := by
 constructor
 ·show lsF L x k + (if nthQ L k < x then 1 else 0) = _; rw [if_neg h]; omega
 ·show eqF L x k + (if nthQ L k = x then 1 else 0) = _; rw [if_pos e]
theorem ls_no {L : List Rat} {x : Rat} {k : Nat} (h : ¬ nthQ L k < x) (e : ¬ nthQ L k = x) : lsF L x (k + 1) = lsF L x k ∧ eqF L x (k + 1) = eqF L x k := by
 constructor
 ·show lsF L x k + (if nthQ L k < x then 1 else 0) = _; rw [if_neg h]; omega
 ·show eqF L x k + (if nthQ L k = x then 1 else 0) = _; rw [if_neg e]; omega
theorem r8_below {v vx : Value} {L : List Rat} {x : Rat} (w : World) (hl : Rows 3 41 RC w v L) (h1 : 1 ≤ L.length) (h20 : L.length ≤ 20) (hz : ∀ i, i < L.length → SzQ 100000 (nthQ L i)) (hx : RV w vx x) (sx : SzQ 100000 x) {a b : Int} (ha : lsF L x L.length = a) (hb : eqF L x L.length = b) : Calls Tryz.prog 31 #[v, vx] w (RetV w (.tuple #[.int .i64 a, .int .i64 b])) := by
 obtain ⟨bhl, ohl, khl, rfl, hl1, hl2, -⟩ := hl.open_ (by omega)
 obtain ⟨shx, ahx, nhx, chx, Ahx, Nhx, Chx, rfl⟩ := hx.shape
 have HLZ := Lib.hid hz
 have HA := Lib.hid ha
 have HB := Lib.hid hb
 clear hz ha hb
 have hs := Below.refl w.heap.size w
 go_enter Tryz.func31, Tryz.ntmps31
 go_wp2
 refine Code.abs ?_
 intro w1 hW
 have hG : Gr [] w w1 := by rw [hW]; exact (Gr.refl _ _).alloc
 have hbw : Below w.heap.size w w1 := hG.below0 hs.size
 have hk : KeepD w w1 := hG.keep True.intro
 have sz_w1 : w.heap.size ≤ w.heap.size := hs.size
 have nhl_w1 : bhl < w.heap.size := hl.lt (by omega)
 have Blx : Bx w1 (w.heap.size) 41 #[.bool shx, .slice ahx nhx chx, .slice Ahx Nhx Chx] := by rw [hW]; exact (Bx.new0 _ _ _)
 replace hs := hs.trans hbw
 replace hl := rowsJ RC.kept _ _ _ hl (hG.below0 (Nat.le_refl _))
 replace hx := hx.keep hk
 clear hW hG hk hbw
 have hz_w1 : w.heap.size < w1.heap.size := Blx.lt
 go_loopw [6, 7, 8] (fun s6 s7 s8 wq => ∃ k : Nat, k ≤ L.length ∧ s8 = .int .i64 k ∧ s6 = .int .i64 (lsF L x k) ∧ s7 = .int .i64 (eqF L x k) ∧ Below w.heap.size w wq ∧ Bx wq (w.heap.size) 41 #[.bool shx, .slice ahx nhx chx, .slice Ahx Nhx Chx] ∧ RV wq (.agg #[.bool shx, .slice ahx nhx chx, .slice Ahx Nhx Chx]) (x) ∧ Rows 3 41 RC wq (.slice (some ⟨bhl, ohl, none⟩) L.length khl) L) (fun s6 s7 s8 _ => L.length - (intOf s8).toNat)
 case atStart => exact ⟨0, Nat.zero_le _, rfl, rfl, rfl, hs, Blx, hx, hl⟩
 case round =>
  clear Blx hx hl hs
  obtain ⟨k, k_le, rfl, rfl, rfl, hs, Blx, hx, hl⟩ := hrel
  obtain ⟨lb1, lb2, lb3, lb4⟩ := ls_bd L x k
  by_cases q1 : k < L.length
  ·have q1d : ((k : Int) < (L.length : Int)) = True := eq_true (by omega)
   go_upto_region 5 with fail
   have BI2a : k < L.length := by omega
   have BI2b : ((k : Int) : Int) < (L.length : Int) := by omega
   obtain ⟨ge3a, ae3a, ne3a, ce3a, Ae3a, Ne3a, De3a, B0, B1, B2, he3a, le3⟩ := rowR_at hl (show k < L.length by omega)
   obtain ⟨sg4, Hsg4⟩ : ∃ s : Int, s = sgQ ((nthQ L k) - x) := ⟨_, rfl⟩
   replace Hsg4 := Lib.hid Hsg4
   refine U_region (S := fun w' => w'.cell? ⟨w.heap.size, 0, none⟩ = some (.bool shx) ∧ w'.cell? ⟨w.heap.size, 1, none⟩ = some (.slice ahx nhx chx) ∧ w'.cell? ⟨w.heap.size, 2, none⟩ = some (.slice Ahx Nhx Chx) ∧ w'.cell? ⟨bhl, ohl + k * 3, none⟩ = some (.bool ge3a) ∧ w'.cell? ⟨bhl, ohl + k * 3 + 1, none⟩ = some (.slice ae3a ne3a ce3a) ∧ w'.cell? ⟨bhl, ohl + k * 3 + 2, none⟩ = some (.slice Ae3a Ne3a De3a)) (by kernel_rfl) 7 ?_
   refine AnyU.abs ?_
   intro w22 hW
   have hb : Below wr.heap.size wr w22 := by rw [hW]; exact bDrew _
   replace hs := bStep hs hb
   replace Blx := Blx.mono hb
   replace hx := hx.mono hb
   replace he3a := he3a.mono hb
   replace hl := rowsJ RC.kept _ _ _ hl hb
   replace B0 := cellK B0 hb
   replace B1 := cellK B1 hb
   replace B2 := cellK B2 hb
   clear hb hW
   have B3 : w22.cell? ⟨w.heap.size, 0, none⟩ = some (.bool shx) := Blx.at 0 rfl
   have B4 : w22.cell? ⟨w.heap.size, 1, none⟩ = some (.slice ahx nhx chx) := Blx.at 1 rfl
   have B5 : w22.cell? ⟨w.heap.size, 2, none⟩ = some (.slice Ahx Nhx Chx) := Blx.at 2 rfl
   have hH := (show w22.cell? ⟨w.heap.size, 0, none⟩ = some (.bool shx) ∧ w22.cell? ⟨w.heap.size, 1, none⟩ = some (.slice ahx nhx chx) ∧ w22.cell? ⟨w.heap.size, 2, none⟩ = some (.slice Ahx Nhx Chx) ∧ w22.cell? ⟨bhl, ohl + k * 3, none⟩ = some (.bool ge3a) ∧ w22.cell? ⟨bhl, ohl + k * 3 + 1, none⟩ = some (.slice ae3a ne3a ce3a) ∧ w22.cell? ⟨bhl, ohl + k * 3 + 2, none⟩ = some (.slice Ae3a Ne3a De3a) from ⟨B3, B4, B5, B0, B1, B2⟩)
   refine U_tk 0 16 ?_ ?_ hH ?_
   rotate_left
   ·(intro w hSw; (try dsimp only at hSw); go_simp; try with_reducible rfl)
   simp only [LY]
   refine U_tk 1 17 ?_ ?_ hH ?_
   rotate_left
   ·(intro w hSw; (try dsimp only at hSw); go_simp; try with_reducible rfl)
   simp only [LY]
   refine U_tk 2 18 ?_ ?_ hH ?_
   rotate_left
   ·(intro w hSw; (try dsimp only at hSw); go_simp; try with_reducible rfl)
   simp only [LY]
   refine U_tk 3 19 ?_ ?_ hH ?_
   rotate_left
   ·(intro w hSw; (try dsimp only at hSw); go_simp; try with_reducible rfl)
   simp only [LY]
   refine U_tk 4 20 ?_ ?_ hH ?_
   rotate_left
   ·(intro w hSw; (try dsimp only at hSw); go_simp; try with_reducible rfl)
   simp only [LY]
   clear hH
   refine U_one (i := 5) (by kernel_rfl) rfl (fun K hK => ?_)
   go_simp
   (with_reducible refine (rCmp he3a hx (SzQ.fit (HLZ.out k (by omega))) (SzQ.fit sx)).mono ?_)
   rintro e w23 ⟨rfl, hb⟩
   replace hs := bStep hs hb
   replace Blx := Blx.mono hb
   replace hx := hx.mono hb
   replace he3a := he3a.mono hb
   replace hl := rowsJ RC.kept _ _ _ hl hb
   replace B3 := cellK B3 hb
   replace B4 := cellK B4 hb
   replace B5 := cellK B5 hb
   replace B0 := cellK B0 hb
   replace B1 := cellK B1 hb
   replace B2 := cellK B2 hb
   clear hb
   rw [← Hsg4.out]
   try go_wp2_with fail
   refine hK.out _ _ ⟨B3, B4, B5, B0, B1, B2⟩ (fun hH => ?_)
   clear hK K
   try simp only [LY]
   refine U_tk 6 9 ?_ ?_ hH ?_
   rotate_left
   ·(intro w hSw; (try dsimp only at hSw); go_simp; try with_reducible rfl)
   simp only [LY]
   clear hH
   refine U_endN (by kernel_rfl) ?_
   clear B3 B4 B5 B0 B1 B2
   by_cases q5 : nthQ L k < x
   ·have q5_ : sg4 < 0 := by have h := sq_lt (nthQ L k) x; rw [← Hsg4.out] at h; exact h.2 q5
    have q5H := Lib.hid q5
    clear q5
    have q5d : decide (sg4 < 0) = true := decide_eq_true q5_
    go_wp2
    go_roundw
    case rel => exact ⟨k + 1, by omega, by go_num, (congrArg _ (by rw [(ls_yes q5H.out).1])), (congrArg _ (by rw [(ls_yes q5H.out).2])), hs, Blx, hx, hl⟩
    all_goals first | (simp [intOf]; done) | (simp [intOf]; omega)
   ·have q5_ : ¬ (sg4 < 0) := by have h := sq_lt (nthQ L k) x; rw [← Hsg4.out] at h; exact fun h1 => q5 (h.1 h1)
    have q5H := Lib.hid q5
    clear q5
    have q5d : decide (sg4 < 0) = false := decide_eq_false q5_
    by_cases q6 : nthQ L k = x
    ·have q6_ : sg4 = 0 := by have h := sq_eq (nthQ L k) x; rw [← Hsg4.out] at h; exact h.2 q6
     have q6H := Lib.hid q6
     clear q6
     have q6b : (sg4 == 0) = true := by rw [q6_]; rfl
     have q6n : (sg4 != 0) = false := by rw [q6_]; rfl
     clear q6_
     go_wp2
     go_roundw
     case rel => exact ⟨k + 1, by omega, by go_num, (congrArg _ (by rw [(ls_eq q5H.out q6H.out).1])), (congrArg _ (by rw [(ls_eq q5H.out q6H.out).2])), hs, Blx, hx, hl⟩
     all_goals first | (simp [intOf]; done) | (simp [intOf]; omega)
    ·have q6_ : ¬ (sg4 = 0) := by have h := sq_eq (nthQ L k) x; rw [← Hsg4.out] at h; exact fun h1 => q6 (h.1 h1)
     have q6H := Lib.hid q6
     clear q6
     have q6b : (sg4 == 0) = false := by simpa using q6_
     have q6n : (sg4 != 0) = true := by simpa using q6_
     go_wp2
     go_roundw
     case rel => exact ⟨k + 1, by omega, by go_num, (congrArg _ (by rw [(ls_no q5H.out q6H.out).1])), (congrArg _ (by rw [(ls_no q5H.out q6H.out).2])), hs, Blx, hx, hl⟩
     all_goals first | (simp [intOf]; done) | (simp [intOf]; omega)
  ·have q1d : ((k : Int) < (L.length : Int)) = False := eq_false (by omega)
   obtain rfl : k = L.length := by omega
   go_wp2
   go_ret2
   exact ⟨by rw [← HA.out, ← HB.out]; rfl, hs⟩
end Go.Proofs.YtlmemilmhdhgbaaGreat
namespace Go.Proofs.YtlmemilmhdhgbaaGreat
open Go.RowKit Dg
def qtD (S : List Rat) (need : Rat) : Nat → Rat
  | 0 => nthQ S 0
  | i + 1 => if ¬ nthQ S i = nthQ S (i + 1) ∧ need ≤ (((S.length : Int) - ((i + 1 : Nat) : Int) : Int) : Rat) then nthQ S (i + 1) else qtD S need i
theorem qtD_yes {S : List Rat} {need : Rat} {k : Nat} (h0 : 0 < k) (h1 : ¬ nthQ S (k - 1) = nthQ S k) (h2 : need ≤ (((S.length : Int) - (k : Int) : Int) : Rat)) : qtD S need k = nthQ S k := by
  obtain ⟨i, rfl⟩ : ∃ i, k = i + 1 := ⟨k - 1, by omega⟩
  exact if_pos ⟨h1, h2⟩
theorem qtD_same {S : List Rat} {need : Rat} {k : Nat} (h0 : 0 < k) (h1 : nthQ S (k - 1) = nthQ S k) : qtD S need k = qtD S need (k - 1) := by
  obtain ⟨i, rfl⟩ : ∃ i, k = i + 1 := ⟨k - 1, by omega⟩
  exact if_neg fun e => e.1 h1
theorem qtD_few {S : List Rat} {need : Rat} {k : Nat} (h0 : 0 < k) (h2 : ¬ need ≤ (((S.length : Int) - (k : Int) : Int) : Rat)) : qtD S need k = qtD S need (k - 1) := by
  obtain ⟨i, rfl⟩ : ∃ i, k = i + 1 := ⟨k - 1, by omega⟩
  exact if_neg fun e => h2 e.2
def qtQ (L : List Rat) (s : Rat) : Rat := qtD (srtQ L) (s * ((L.length : Int) : Rat)) (L.length - 1)
def mxF (S : List Rat) : Nat → Nat
  | 0 => 0
  | k + 1 => if nthQ S (mxF S k) < nthQ S k then k else mxF S k
theorem mxF_yes {S : List Rat} {k : Nat} (h : nthQ S (mxF S k) < nthQ S k) : mxF S (k + 1) = k := if_pos h
theorem mxF_no {S : List Rat} {k : Nat} (h : ¬ nthQ S (mxF S k) < nthQ S k) : mxF S (k + 1) = mxF S k := if_neg h
theorem mxF_le (S : List Rat) : ∀ k, 0 < k → mxF S k < k
  | 0, h => absurd h (Nat.lt_irrefl 0)
  | k + 1, _ => by
    show (if nthQ S (mxF S k) < nthQ S k then k else mxF S k) < k + 1
    split
    · omega
    · by_cases h0 : k = 0
      · subst h0; exact Nat.lt_succ_self 0
      · have := mxF_le S k (by omega); omega
theorem mxF_lt (S : List Rat) (k : Nat) : mxF S k ≤ k := by
  by_cases h0 : k = 0
  · subst h0; exact Nat.le_refl _
  · have := mxF_le S k (by omega); omega
end Go.Proofs.YtlmemilmhdhgbaaGreat
namespace Go.Proofs.YtlmemilmhdhgbaaGreat
open Go.RowKit Dg
def ltM (L : List Rat) (v : Rat) : Nat := L.countP (fun x => decide (x < v))
theorem ls_count {L : List Rat} {x : Rat} : ∀ k, k ≤ L.length → lsF L x k = ((L.take k).countP (fun y => decide (y < x)) : Nat) ∧ lsF L x k + eqF L x k = ((L.take k).countP (fun y => decide (y ≤ x)) : Nat)
  | 0, _ => by simp [lsF, eqF]
  | k + 1, h => by
    obtain ⟨a, b⟩ := ls_count (L := L) (x := x) k (by omega)
    rw [List.take_add_one, nthQ_some (show k < L.length by omega), List.countP_append, List.countP_append]
    rcases tri3 (nthQ L k) x with c | c | c
    · obtain ⟨e1, e2⟩ := ls_yes c
      rw [e1, e2]
      have c2 : nthQ L k ≤ x := Rat.le_of_lt c
      simp only [Option.toList_some, List.countP_singleton, decide_eq_true c, decide_eq_true c2, if_true]
      omega
    · have cl : ¬ nthQ L k < x := by rw [c]; exact Rat.lt_irrefl
      have c2 : nthQ L k ≤ x := by rw [c]; exact Rat.le_refl
      obtain ⟨e1, e2⟩ := ls_eq cl c
      rw [e1, e2]
      simp only [Option.toList_some, List.countP_singleton, decide_eq_false cl, decide_eq_true c2, if_true, Bool.false_eq_true, if_false]
      omega
    · have cl : ¬ nthQ L k < x := Rat.not_lt.2 (Rat.le_of_lt c)
      have ce : ¬ nthQ L k = x := fun e => by rw [e] at c; exact Rat.lt_irrefl c
      have c2 : ¬ nthQ L k ≤ x := Rat.not_le.2 c
      obtain ⟨e1, e2⟩ := ls_no cl ce
      rw [e1, e2]
      simp only [Option.toList_some, List.countP_singleton, decide_eq_false cl, decide_eq_false c2, Bool.false_eq_true, if_false]
      omega
theorem ls_all (L : List Rat) (x : Rat) : lsF L x L.length = (ltM L x : Nat) ∧ lsF L x L.length + eqF L x L.length = (atM L x : Nat) := by
  have := ls_count (L := L) (x := x) L.length (Nat.le_refl _)
  rwa [List.take_length] at this
theorem ord_lt (v : Rat) : ∀ (S : List Rat), S.Pairwise (· ≤ ·) → ∀ r, r < S.length → (nthQ S r < v ↔ r + 1 ≤ ltM S v)
  | [], _, r, h => by simp at h
  | a :: t, hs, r, h => by
    obtain ⟨h1, h2⟩ := List.pairwise_cons.1 hs
    by_cases c : a < v
    · have e : ltM (a :: t) v = ltM t v + 1 := by unfold ltM; rw [List.countP_cons_of_pos (by simpa using c)]
      rw [e]
      match r with
      | 0 => exact ⟨fun _ => by omega, fun _ => c⟩
      | r + 1 =>
        have := ord_lt v t h2 r (by simpa using h)
        show nthQ t r < v ↔ _
        rw [this]
        omega
    · have e : ltM (a :: t) v = 0 := by
        unfold ltM
        rw [List.countP_eq_zero]
        intro x hx
        rcases List.mem_cons.1 hx with rfl | hx
        · simpa using c
        · have := h1 x hx
          simp only [decide_eq_true_eq]
          intro hv
          exact c (by grind)
      rw [e]
      constructor
      · intro hv
        exfalso
        match r with
        | 0 => exact c hv
        | r + 1 =>
          have hr : r < t.length := by simpa using h
          have := h1 (nthQ t r) (List.mem_of_getElem? (nthQ_some hr))
          have hv' : nthQ t r < v := hv
          exact c (by grind)
      · intro hv; omega
theorem ordQ_lt {L : List Rat} {r : Nat} (h : r < L.length) (v : Rat) : ordQ L r < v ↔ r + 1 ≤ ltM L v := by
  have := ord_lt v (srtQ L) (srtQ_sorted L) r (by rw [srtQ_len]; exact h)
  unfold ordQ
  rw [this]
  unfold ltM
  rw [(srtQ_perm L).countP_eq]
theorem lim_eq {L : List Rat} {r : Nat} {x : Rat} (h1 : 1 ≤ r) (h2 : r ≤ L.length) (a : lsF L x L.length < r) (b : (r : Int) ≤ lsF L x L.length + eqF L x L.length) : x = ordQ L (r - 1) := by
  obtain ⟨e1, e2⟩ := ls_all L x
  have u1 := (ordQ_le (L := L) (r := r - 1) (by omega) x).2 (by omega)
  have u2 : ¬ ordQ L (r - 1) < x := fun e => by
    have := (ordQ_lt (L := L) (r := r - 1) (by omega) x).1 e
    omega
  grind
theorem lim_ex {L : List Rat} {r : Nat} (h1 : 1 ≤ r) (h2 : r ≤ L.length) : ∃ i, i < L.length ∧ lsF L (nthQ L i) L.length < r ∧ (r : Int) ≤ lsF L (nthQ L i) L.length + eqF L (nthQ L i) L.length := by
  have hm := ordQ_mem (L := L) (r := r - 1) (by omega)
  obtain ⟨i, hi, e⟩ := List.getElem_of_mem hm
  have e3 := nthQ_some hi
  rw [List.getElem?_eq_getElem hi] at e3
  injection e3 with e3
  rw [e] at e3
  refine ⟨i, hi, ?_⟩
  rw [← e3]
  obtain ⟨e1, e2⟩ := ls_all L (ordQ L (r - 1))
  have u1 := (ordQ_le (L := L) (r := r - 1) (by omega) (ordQ L (r - 1))).1 Rat.le_refl
  have u2 : ¬ r - 1 + 1 ≤ ltM L (ordQ L (r - 1)) := fun c => Rat.lt_irrefl ((ordQ_lt (L := L) (r := r - 1) (by omega) _).2 c)
  omega
def enQ (L : List Rat) (nd : Rat) (x : Rat) : Prop := nd ≤ (((L.length : Int) - lsF L x L.length : Int) : Rat)
instance (L : List Rat) (nd x : Rat) : Decidable (enQ L nd x) := by unfold enQ; infer_instance
def bqF (L : List Rat) (nd : Rat) : Nat → Int
  | 0 => -1
  | k + 1 => if enQ L nd (nthQ L k) ∧ (bqF L nd k < 0 ∨ nthQ L (bqF L nd k).toNat < nthQ L k) then (k : Int) else bqF L nd k
theorem bqF_yes {L : List Rat} {nd : Rat} {k : Nat} (h : enQ L nd (nthQ L k)) (h2 : bqF L nd k < 0 ∨ nthQ L (bqF L nd k).toNat < nthQ L k) : bqF L nd (k + 1) = k := if_pos ⟨h, h2⟩
theorem bqF_no1 {L : List Rat} {nd : Rat} {k : Nat} (h : ¬ enQ L nd (nthQ L k)) : bqF L nd (k + 1) = bqF L nd k := if_neg fun e => h e.1
theorem bqF_no2 {L : List Rat} {nd : Rat} {k : Nat} (h : ¬ bqF L nd k < 0) (h2 : ¬ nthQ L (bqF L nd k).toNat < nthQ L k) : bqF L nd (k + 1) = bqF L nd k := if_neg fun e => e.2.elim h h2
theorem bqF_bd (L : List Rat) (nd : Rat) : ∀ k, -1 ≤ bqF L nd k ∧ bqF L nd k < (k : Int)
  | 0 => by
    have e : bqF L nd 0 = -1 := rfl
    omega
  | k + 1 => by
    have ih := bqF_bd L nd k
    by_cases c : enQ L nd (nthQ L k) ∧ (bqF L nd k < 0 ∨ nthQ L (bqF L nd k).toNat < nthQ L k)
    · have e : bqF L nd (k + 1) = k := if_pos c
      omega
    · have e : bqF L nd (k + 1) = bqF L nd k := if_neg c
      omega
theorem bqF_max {L : List Rat} {nd : Rat} : ∀ k, (bqF L nd k < 0 → ∀ i, i < k → ¬ enQ L nd (nthQ L i)) ∧ (0 ≤ bqF L nd k → (bqF L nd k).toNat < k ∧ enQ L nd (nthQ L (bqF L nd k).toNat) ∧ ∀ i, i < k → enQ L nd (nthQ L i) → nthQ L i ≤ nthQ L (bqF L nd k).toNat)
  | 0 => ⟨fun _ i h => by omega, fun h => by have : bqF L nd 0 = -1 := rfl; omega⟩
  | k + 1 => by
    obtain ⟨a, b⟩ := bqF_max (L := L) (nd := nd) k
    by_cases c : enQ L nd (nthQ L k) ∧ (bqF L nd k < 0 ∨ nthQ L (bqF L nd k).toNat < nthQ L k)
    · have e : bqF L nd (k + 1) = k := if_pos c
      rw [e]
      refine ⟨fun h => by omega, fun _ => ?_⟩
      rw [Int.toNat_natCast]
      refine ⟨by omega, c.1, fun i hi he => ?_⟩
      by_cases ik : i = k
      · subst ik; exact Rat.le_refl
      · rcases c.2 with c2 | c2
        · exact absurd he (a c2 i (by omega))
        · by_cases c3 : bqF L nd k < 0
          · exact absurd he (a c3 i (by omega))
          · exact Rat.le_trans ((b (by omega)).2.2 i (by omega) he) (Rat.le_of_lt c2)
    · have e : bqF L nd (k + 1) = bqF L nd k := if_neg c
      rw [e]
      refine ⟨fun h i hi he => ?_, fun h => ?_⟩
      · by_cases ik : i = k
        · subst ik; exact c ⟨he, .inl h⟩
        · exact a h i (by omega) he
      · obtain ⟨b1, b2, b3⟩ := b h
        refine ⟨by omega, b2, fun i hi he => ?_⟩
        by_cases ik : i = k
        · subst ik
          exact Rat.not_lt.1 fun c2 => c ⟨he, .inr c2⟩
        · exact b3 i (by omega) he
theorem qtD_max {L S : List Rat} {nd : Rat} (hp : S.Perm L) (hs : S.Pairwise (· ≤ ·)) (h0 : nd ≤ ((L.length : Int) : Rat)) : ∀ k, k < S.length → (∀ x ∈ S, enQ L nd x → x ≤ nthQ S k) → qtD S nd k ∈ S ∧ enQ L nd (qtD S nd k) ∧ ∀ x ∈ S, enQ L nd x → x ≤ qtD S nd k
  | 0, hk, hall => by
    have m0 : nthQ S 0 ∈ S := List.mem_of_getElem? (nthQ_some hk)
    refine ⟨m0, ?_, hall⟩
    show enQ L nd (nthQ S 0)
    unfold enQ
    have z : ltM L (nthQ S 0) = 0 := by
      have := (ord_lt (nthQ S 0) S hs 0 hk)
      have h : ¬ 0 + 1 ≤ ltM S (nthQ S 0) := fun c => Rat.lt_irrefl (this.2 c)
      unfold ltM at *
      rw [← hp.countP_eq]
      omega
    rw [(ls_all L _).1, z]
    simpa using h0
  | k + 1, hk, hall => by
    have hle : nthQ S k ≤ nthQ S (k + 1) := by
      have h := List.pairwise_iff_getElem.1 hs k (k + 1) (by omega) hk (by omega)
      have e1 := nthQ_some (show k < S.length by omega)
      have e2 := nthQ_some hk
      rw [List.getElem?_eq_getElem (show k < S.length by omega)] at e1
      rw [List.getElem?_eq_getElem hk] at e2
      injection e1 with e1
      injection e2 with e2
      rwa [e1, e2] at h
    by_cases c1 : nthQ S k = nthQ S (k + 1)
    · rw [qtD_same (k := k + 1) (by omega) c1]
      exact qtD_max hp hs h0 k (by omega) (fun x hx he => by rw [c1]; exact hall x hx he)
    · have lt : nthQ S k < nthQ S (k + 1) := by grind
      have cnt : ltM L (nthQ S (k + 1)) = k + 1 := by
        have a := (ord_lt (nthQ S (k + 1)) S hs k (by omega)).1 lt
        have b : ¬ k + 1 + 1 ≤ ltM S (nthQ S (k + 1)) := fun c => Rat.lt_irrefl ((ord_lt (nthQ S (k + 1)) S hs (k + 1) hk).2 c)
        unfold ltM at *
        rw [← hp.countP_eq]
        omega
      have en : enQ L nd (nthQ S (k + 1)) ↔ nd ≤ (((S.length : Int) - ((k + 1 : Nat) : Int) : Int) : Rat) := by
        unfold enQ
        rw [(ls_all L _).1, cnt, hp.length_eq]
      by_cases c2 : nd ≤ (((S.length : Int) - ((k + 1 : Nat) : Int) : Int) : Rat)
      · rw [qtD_yes (k := k + 1) (by omega) c1 c2]
        exact ⟨List.mem_of_getElem? (nthQ_some hk), en.2 c2, hall⟩
      · rw [qtD_few (k := k + 1) (by omega) c2]
        refine qtD_max hp hs h0 k (by omega) (fun x hx he => ?_)
        obtain ⟨j, hj, e⟩ := List.getElem_of_mem hx
        have ej := nthQ_some hj
        rw [List.getElem?_eq_getElem hj] at ej
        injection ej with ej
        rw [e] at ej
        by_cases jk : j ≤ k
        · by_cases je : j = k
          · subst je; rw [ej]; exact Rat.le_refl
          · have h := List.pairwise_iff_getElem.1 hs j k hj (by omega) (by omega)
            have e1 := nthQ_some (show k < S.length by omega)
            rw [List.getElem?_eq_getElem (show k < S.length by omega)] at e1
            injection e1 with e1
            rw [e, e1] at h
            exact h
        · exfalso
          have hge : nthQ S (k + 1) ≤ x := by
            by_cases je : j = k + 1
            · subst je; rw [ej]; exact Rat.le_refl
            · have h := List.pairwise_iff_getElem.1 hs (k + 1) j hk hj (by omega)
              have e2 := nthQ_some hk
              rw [List.getElem?_eq_getElem hk] at e2
              injection e2 with e2
              rw [e, e2] at h
              exact h
          have hx2 := hall x hx he
          have ex : x = nthQ S (k + 1) := by grind
          rw [ex] at he
          exact c2 (en.1 he)
theorem qt_same {L : List Rat} {u : Rat} (h1 : 1 ≤ L.length) (hu : u ≤ 1) : 0 ≤ bqF L (u * ((L.length : Int) : Rat)) L.length ∧ nthQ L (bqF L (u * ((L.length : Int) : Rat)) L.length).toNat = qtQ L u := by
  have h0 : u * ((L.length : Int) : Rat) ≤ ((L.length : Int) : Rat) := by
    have := len_pos h1
    have h := Rat.mul_nonneg (show 0 ≤ 1 - u by grind) (Rat.le_of_lt this)
    grind
  have hS := srtQ_sorted L
  have hl := srtQ_len L
  have hq := qtD_max (L := L) (S := srtQ L) (nd := u * ((L.length : Int) : Rat)) (srtQ_perm L) hS h0 (L.length - 1) (by omega) (fun x hx _ => by
    obtain ⟨j, hj, e⟩ := List.getElem_of_mem hx
    have ej := nthQ_some hj
    rw [List.getElem?_eq_getElem hj] at ej
    injection ej with ej
    rw [e] at ej
    by_cases je : j = L.length - 1
    · subst je; rw [ej]; exact Rat.le_refl
    · have h := List.pairwise_iff_getElem.1 hS j (L.length - 1) hj (by omega) (by omega)
      have e2 := nthQ_some (show L.length - 1 < (srtQ L).length by omega)
      rw [List.getElem?_eq_getElem (show L.length - 1 < (srtQ L).length by omega)] at e2
      injection e2 with e2
      rw [e, e2] at h
      exact h)
  obtain ⟨q1, q2, q3⟩ := hq
  have qL : qtQ L u ∈ L := (srtQ_perm L).mem_iff.1 q1
  obtain ⟨j, hj, e⟩ := List.getElem_of_mem qL
  have ej := nthQ_some hj
  rw [List.getElem?_eq_getElem hj] at ej
  injection ej with ej
  rw [e] at ej
  obtain ⟨b1, b2⟩ := bqF_max (L := L) (nd := u * ((L.length : Int) : Rat)) L.length
  have hb : 0 ≤ bqF L (u * ((L.length : Int) : Rat)) L.length := by
    by_cases c : bqF L (u * ((L.length : Int) : Rat)) L.length < 0
    · exact absurd (ej ▸ q2) (b1 c j hj)
    · omega
  obtain ⟨c1, c2, c3⟩ := b2 hb
  refine ⟨hb, ?_⟩
  have u1 := c3 j hj (ej ▸ q2)
  have u2 := q3 _ ((srtQ_perm L).mem_iff.2 (List.mem_of_getElem? (nthQ_some c1))) c2
  rw [← ej] at u1
  exact Rat.le_antisymm u2 u1
end Go.Proofs.YtlmemilmhdhgbaaGreat
