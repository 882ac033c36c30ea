/-
  Law 07: ScanEnergy, the main way, over awake.
-/
import Derived.Test.YtkfekkhhfpkfaaaRingP
import Derived.Test.YtkfekkhhfpkfaaaRingT
import Derived.Test.YtkfekkhhfpkfaaaNumbers
import Derived.Test.YtkfekkhhfpkfaaaLawSplit0
set_option linter.unusedSimpArgs false
set_option linter.unusedVariables false
namespace Go.Proofs.Ytkfekkhhfpkfaaa
open Go.RowKit Dg
attribute [local go_sem ↓] Go.wp_at_zero Go.wp_at_succ

theorem p_Int1 (w : World) : Calls Try.prog 14 #[.int .i64 1] w (RetP w 1) := p_Int_calls 1 w (by decide) (by decide)
def layE (x : Rat) : Lay := (x, 1, 1)
def layJ (L : List Rat) : Nat → List Lay
  | 0 => []
  | j + 1 => layJ L j ++ [(nthQ L j, 1, 1)]
theorem layJ_take {L : List Rat} : ∀ j, j ≤ L.length → layJ L j = (L.take j).map layE
  | 0, _ => rfl
  | j + 1, h => by
    have e : L.take (j + 1) = L.take j ++ [nthQ L j] := by rw [List.take_add_one, nthQ_some (by omega)]; rfl
    rw [e, List.map_append, ← layJ_take j (by omega)]
    rfl
theorem layJ_all {L : List Rat} : layJ L L.length = L.map layE := by rw [layJ_take _ (Nat.le_refl _), List.take_length]
theorem layJ_len {L : List Rat} : ∀ j, (layJ L j).length = j
  | 0 => rfl
  | j + 1 => by show (layJ L j ++ [(nthQ L j, 1, 1)]).length = j + 1; rw [List.length_append, layJ_len j]; rfl
theorem sc_Ring_eq {v : Value} {L : List Rat} {K : Nat} {w : World} {B T : List Rat} {I : Rat} (hl : Rows 3 32 PC w v L) (h2 : 2 ≤ L.length) (h5 : L.length ≤ 5) (hz : ∀ i, i < L.length → SzQ 1 (nthQ L i)) (hap : allPos L = true) (k1 : 1 ≤ K) (k6 : K ≤ 6) (hB : rgBks L K = B) (hT : rgThs L K = T) (hI : rgIns L K = I) :
    Calls Try.prog 8 #[v, .int .i64 K] w (Ret4 (fun w v => Rows 3 32 PC w v B) (fun w v => Rows 3 32 PC w v T) (fun w v => PV w v I) (fun _ v => v = .int .i64 0) w) := by
  subst hB hT hI
  exact sc_Ring_ok v L K w hl h2 h5 hz hap k1 k6
set_option maxRecDepth 100000 in
set_option maxHeartbeats 16000000 in
theorem l7_ScanEnergy_ok (hAw : ∀ w : World, Calls Try.prog 5 #[] w (RetV w (.bool true))) (v : Value) (l : List (Int × Int)) (b0 : Int) (w : World) (hl : RowsI 2 FC w v l) (hok : ∀ x ∈ l, DOk x) (p0 : 0 ≤ b0 ∧ b0 ≤ 255) (ht : l.all tinyF = true) (L : List Rat) (hLL : L = l.map frF) (hLl : L.length = l.length) (h2 : 2 ≤ L.length) (h5 : L.length ≤ 5) (hap : allPos L = true) (hz : ∀ i, i < L.length → SzQ 1 (nthQ L i))
    (K : Nat) (hK : 1 + b0 % 6 = (K : Int)) (k1 : 1 ≤ K) (k6 : K ≤ 6) (B T : List Rat) (I : Rat) (hB : rgBks L K = B) (hT : rgThs L K = T) (hI : rgIns L K = I) (lB : B.length = K) (lT : T.length = K) (hI0 : 0 ≤ I) (sI : SzQ 30000 I)
    (sB : ∀ i, i < B.length → SzQ 2200 (nthQ B i)) (sT : ∀ i, i < T.length → SzQ 2200 (nthQ T i)) (sqB : SzQ 30000 (sqQ B B.length)) (sqT : SzQ 30000 (sqQ T T.length)) (hne : nthQ L (L.length - 1) ≠ 0) (hE : sqQ B B.length + (sqQ T T.length * (nthQ L 0 / nthQ L (L.length - 1))) + I = 1)
    (LE : List Lay) (hLE : layJ L L.length = LE) (X : List Stp) (hlz : ∀ x ∈ LE, LaySz 1 x) (hlp : LE.all layPos = true) (hlm : LE.length = L.length) (hX : echoQ LE (LE.length - 1) = X) (lX : X.length + 1 = L.length) (sX : ∀ i, i < X.length → SzQ 100000 (taQ X i) ∧ SzQ 200000 (vaQ X i)) (e0 : nthQ B 0 = vaQ X 0) (e2 : 2 < B.length → 1 < X.length → nthQ B 2 = vaQ X 1) (eo : ∀ i, i < B.length → i % 2 = 1 → nthQ B i = 0) :
    Calls Try.prog 3 #[v, .int .u8 b0] w (RetV w (.bool true)) := by
  obtain ⟨ao, cap, rfl, hc1, hc2, hc3⟩ := hl.slice
  have hs := Below.refl w.heap.size w
  obtain ⟨p00, p01⟩ := p0
  obtain ⟨i0, hi, hz0, hz1, hz2⟩ := info_parts layP_info
  have h5l : l.length ≤ 5 := by omega
  have h2l : 2 ≤ l.length := by omega
  have lB1 : B.length ≤ K := by omega
  have lB2 : K ≤ B.length := by omega
  have lT1 : T.length ≤ K := by omega
  have lT2 : K ≤ T.length := by omega
  have lE1 : LE.length ≤ L.length := by omega
  have lE2 : L.length ≤ LE.length := by omega
  have lX1 : X.length + 1 ≤ L.length := by omega
  have lX2 : L.length ≤ X.length + 1 := by omega
  have HAW := Lib.hid hAw
  have HL := Lib.hid hl
  have HOK := Lib.hid hok
  have HLT := Lib.hid ht
  have HLL := Lib.hid hLL
  have HLEN := Lib.hid hLl
  have HAP := Lib.hid hap
  have HZ := Lib.hid hz
  have HK := Lib.hid hK
  have HB := Lib.hid hB
  have HT := Lib.hid hT
  have HI := Lib.hid hI
  have HLB := Lib.hid lB
  have HLT2 := Lib.hid lT
  have HI0 := Lib.hid hI0
  have HSI := Lib.hid sI
  have HSB := Lib.hid sB
  have HST := Lib.hid sT
  have HQB := Lib.hid sqB
  have HQT := Lib.hid sqT
  have HNE := Lib.hid hne
  have HE := Lib.hid hE
  have HLZ := Lib.hid hlz
  have HLP := Lib.hid hlp
  have HLM := Lib.hid hlm
  have HLE := Lib.hid hLE
  have HX := Lib.hid hX
  have HLX := Lib.hid lX
  have HSX := Lib.hid sX
  have HE0 := Lib.hid e0
  have HE2 := Lib.hid e2
  have HEO := Lib.hid eo
  clear hAw hl hok ht hLL hLl hap hz hK hB hT hI lB lT hI0 sI sB sT sqB sqT hne hE hlz hlp hlm hLE hX lX sX e0 e2 eo
  go_enter Try.func3, Try.ntmps3
  go_wp2_with fail
  with_reducible refine (l7_tiny _ l _ (HL.out.mono FC.kept hs)).mono ?_
  rintro e w1 ⟨rfl, hb⟩
  replace hs := bStep hs hb
  clear hb
  obtain ⟨b1, Hb1⟩ : ∃ b : Bool, b = l.all tinyF := ⟨_, rfl⟩
  rw [← Hb1]
  replace Hb1 := Lib.hid Hb1
  have q2 : l.all tinyF = true := HLT.out
  obtain rfl : b1 = true := by rw [Hb1.out]; exact q2
  have q2H := Lib.hid q2
  clear q2
  have q3 : ¬ (5 < l.length) := (by omega)
  have q3d : ((5 : Int) < (l.length : Int)) = False := eq_false (by omega)
  have q4 : ¬ (l.length < 2) := (by omega)
  have q4d : ((l.length : Int) < 2) = False := eq_false (by omega)
  go_wp2_with fail
  with_reducible refine (l7_numbers _ l _ (HL.out.mono FC.kept hs) (by omega) HOK.out).mono ?_
  rintro e w2 ⟨_, _, rfl, A5, _, hb⟩
  rw [← HLL.out] at A5
  obtain ⟨bA5, oA5, kA5, rfl, A51, A52, -⟩ := A5.open_ (by omega)
  replace hs := bStep hs hb
  clear hb
  go_wp2
  go_loopw [41] (fun s41 wq => ∃ i : Nat, i ≤ L.length ∧ s41 = .int .i64 i ∧ Below w.heap.size w wq ∧ Rows 3 32 PC wq (.slice (some ⟨bA5, oA5, none⟩) L.length kA5) L) (fun s41 _ => L.length - (intOf s41).toNat)
  case atStart => exact ⟨0, Nat.zero_le _, rfl, hs, A5⟩
  case round =>
    clear A5 hs
    obtain ⟨i, k_le, rfl, hs, A5⟩ := hrel
    by_cases q6 : i < L.length
    · have q6d : ((i : Int) < (L.length : Int)) = True := eq_true (by omega)
      have BI7a : i < L.length := by omega
      have BI7b : ((i : Int) : Int) < (L.length : Int) := by omega
      obtain ⟨ge8a, ae8a, ne8a, ce8a, Ae8a, Ne8a, De8a, Ee80, Ee81, Ee82, he8a, le8⟩ := rowP_at A5 (show i < L.length by omega)
      go_wp2_with fail
      clear le8 Ee80 Ee81 Ee82
      refine Calls.abs ?_
      intro w23 hW
      have hG : Gr [] wr w23 := by rw [hW]; exact (Gr.refl _ _).alloc
      have hbw : Below w.heap.size wr w23 := hG.below0 hs.size
      have hk : KeepD wr w23 := hG.keep True.intro
      have sz_w23 : w.heap.size ≤ wr.heap.size := hs.size
      have nA5_w23 : bA5 < wr.heap.size := A5.lt (by omega)
      have Blx : Bx w23 (wr.heap.size) 32 #[.bool ge8a, .slice ae8a ne8a ce8a, .slice Ae8a Ne8a De8a] := by rw [hW]; exact (Bx.new0 _ _ _)
      replace hs := hs.trans hbw
      replace A5 := rowsJ PC.kept _ _ _ A5 (hG.below0 (Nat.le_refl _))
      replace he8a := he8a.keep hk
      clear hW hG hk hbw
      have hz_w23 : wr.heap.size < w23.heap.size := Blx.lt
      with_reducible refine (pSign he8a).mono ?_
      rintro e w24 ⟨rfl, hb⟩
      replace hs := bStep hs hb
      replace Blx := Blx.mono hb
      replace he8a := he8a.mono hb
      replace A5 := rowsJ PC.kept _ _ _ A5 hb
      clear hb
      obtain ⟨sg9, Hsg9⟩ : ∃ s : Int, s = sgQ (nthQ L i) := ⟨_, rfl⟩
      rw [← Hsg9]
      replace Hsg9 := Lib.hid Hsg9
      have q10 : ¬ (nthQ L i ≤ 0) := (Rat.not_le.2 (nthQ_pos HAP.out i (by omega)))
      have q10_ : ¬ (sg9 ≤ 0) := by have h := s1_le (nthQ L i); rw [← Hsg9.out] at h; exact fun h1 => q10 (h.1 h1)
      have q10H := Lib.hid q10
      clear q10
      have q10d : decide (sg9 ≤ 0) = false := decide_eq_false q10_
      go_wp2
      go_roundw
      case rel => exact ⟨i + 1, by omega, by go_num, hs, A5⟩
      all_goals first | (simp [intOf]; done) | (simp [intOf]; omega)
    · have q6d : ((i : Int) < (L.length : Int)) = False := eq_false (by omega)
      go_wp2_with fail
      rw [HK.out]
      with_reducible refine (sc_Ring_eq A5 h2 h5 HZ.out HAP.out k1 k6 HB.out HT.out HI.out).mono ?_
      rintro e w23 ⟨_, _, _, _, rfl, B_7, T_8, h9, rfl, hb⟩
      obtain ⟨bB_7, oB_7, kB_7, rfl, B_71, B_72, -⟩ := B_7.open_ (by omega)
      obtain ⟨bT_8, oT_8, kT_8, rfl, T_81, T_82, -⟩ := T_8.open_ (by omega)
      obtain ⟨sh9, ah9, nh9, ch9, Ah9, Nh9, Ch9, rfl⟩ := h9.shape
      replace hs := bStep hs hb
      replace A5 := rowsJ PC.kept _ _ _ A5 hb
      clear hb
      have q10 : B.length = K := (by omega)
      have q10b : ((B.length : Int) == (K : Int)) = true := beq_iff_eq.2 (by omega)
      have q10n : ((B.length : Int) != (K : Int)) = false := bne_eq_false_iff_eq.2 (by omega)
      have q10H := Lib.hid q10
      clear q10
      have q11 : T.length = K := (by omega)
      have q11b : ((T.length : Int) == (K : Int)) = true := beq_iff_eq.2 (by omega)
      have q11n : ((T.length : Int) != (K : Int)) = false := bne_eq_false_iff_eq.2 (by omega)
      have q11H := Lib.hid q11
      clear q11
      go_wp2_with fail
      refine Calls.abs ?_
      intro w24 hW
      have hG : Gr [] w23 w24 := by rw [hW]; exact (Gr.refl _ _).alloc
      have hbw : Below w.heap.size w23 w24 := hG.below0 hs.size
      have hk : KeepD w23 w24 := hG.keep True.intro
      have sz_w24 : w.heap.size ≤ w23.heap.size := hs.size
      have nA5_w24 : bA5 < w23.heap.size := A5.lt (by omega)
      have nB_7_w24 : bB_7 < w23.heap.size := B_7.lt (by omega)
      have nT_8_w24 : bT_8 < w23.heap.size := T_8.lt (by omega)
      have Blinside : Bx w24 (w23.heap.size) 32 #[.bool sh9, .slice ah9 nh9 ch9, .slice Ah9 Nh9 Ch9] := by rw [hW]; exact (Bx.new0 _ _ _)
      replace hs := hs.trans hbw
      replace A5 := rowsJ PC.kept _ _ _ A5 (hG.below0 (Nat.le_refl _))
      replace B_7 := rowsJ PC.kept _ _ _ B_7 (hG.below0 (Nat.le_refl _))
      replace T_8 := rowsJ PC.kept _ _ _ T_8 (hG.below0 (Nat.le_refl _))
      replace h9 := h9.keep hk
      clear hW hG hk hbw
      have hz_w24 : w23.heap.size < w24.heap.size := Blinside.lt
      with_reducible refine (pSign h9).mono ?_
      rintro e w25 ⟨rfl, hb⟩
      replace hs := bStep hs hb
      replace Blinside := Blinside.mono hb
      replace h9 := h9.mono hb
      replace A5 := rowsJ PC.kept _ _ _ A5 hb
      replace B_7 := rowsJ PC.kept _ _ _ B_7 hb
      replace T_8 := rowsJ PC.kept _ _ _ T_8 hb
      clear hb
      obtain ⟨sg12, Hsg12⟩ : ∃ s : Int, s = sgQ I := ⟨_, rfl⟩
      rw [← Hsg12]
      replace Hsg12 := Lib.hid Hsg12
      have q13 : ¬ (I < 0) := (Rat.not_lt.2 HI0.out)
      have q13_ : ¬ (sg12 < 0) := by have h := s1_lt I; rw [← Hsg12.out] at h; exact fun h1 => q13 (h.1 h1)
      have q13H := Lib.hid q13
      clear q13
      have q13d : decide (sg12 < 0) = false := decide_eq_false q13_
      go_upto_region 14 with fail
      have BI14a : 0 < L.length := by omega
      have BI14b : (0 : Int) < (L.length : Int) := by omega
      obtain ⟨ge15a, ae15a, ne15a, ce15a, Ae15a, Ne15a, De15a, Ee150, Ee151, Ee152, he15a, le15⟩ := rowP_at A5 (show 0 < L.length by omega)
      simp only [Nat.zero_mul, Nat.add_zero] at Ee150 Ee151 Ee152
      have SW16a := IntWalk.i64_in ((L.length : Int) - 1) (by omega)
      have SW16b : (0 : Int) ≤ (L.length : Int) - 1 := by omega
      have SW16c : ((L.length : Int) - 1).toNat = (L.length - 1) := by omega
      have SW16d : (L.length : Int) - 1 < (L.length : Int) := by omega
      have SW16e : (1 : Int) ≤ (L.length : Int) := by omega
      have SW16f : (L.length : Int) < (L.length : Int) + 1 := by omega
      have BI17a : (L.length - 1) < L.length := by omega
      have BI17b : ((L.length : Int) - 1 : Int) < (L.length : Int) := by omega
      obtain ⟨ge18a, ae18a, ne18a, ce18a, Ae18a, Ne18a, De18a, Ee180, Ee181, Ee182, he18a, le18⟩ := rowP_at A5 (show (L.length - 1) < L.length by omega)
      go_cut [14, 13] (fun kv0 kx0 wz => ∃ gpart sh19 ah19 nh19 ch19 Ah19 Nh19 Ch19, kv0 = .pointer (some ⟨gpart, 0, none⟩) ∧ kx0 = .int .i64 0 ∧ w.heap.size ≤ gpart ∧ gpart ≠ w23.heap.size ∧ bA5 ≠ gpart ∧ bB_7 ≠ gpart ∧ bT_8 ≠ gpart ∧ Bx wz gpart 32 #[.bool sh19, .slice ah19 nh19 ch19, .slice Ah19 Nh19 Ch19] ∧ Below w.heap.size w wz ∧ Bx wz (w23.heap.size) 32 #[.bool sh9, .slice ah9 nh9 ch9, .slice Ah9 Nh9 Ch9] ∧ PV wz (.agg #[.bool sh9, .slice ah9 nh9 ch9, .slice Ah9 Nh9 Ch9]) (I) ∧ PV wz (.agg #[.bool ge15a, .slice ae15a ne15a ce15a, .slice Ae15a Ne15a De15a]) (nthQ L 0) ∧ PV wz (.agg #[.bool ge18a, .slice ae18a ne18a ce18a, .slice Ae18a Ne18a De18a]) (nthQ L (L.length - 1)) ∧ PV wz (.agg #[.bool sh19, .slice ah19 nh19 ch19, .slice Ah19 Nh19 Ch19]) (nthQ L 0 / (nthQ L (L.length - 1))) ∧ Rows 3 32 PC wz (.slice (some ⟨bA5, oA5, none⟩) L.length kA5) L ∧ Rows 3 32 PC wz (.slice (some ⟨bB_7, oB_7, none⟩) B.length kB_7) B ∧ Rows 3 32 PC wz (.slice (some ⟨bT_8, oT_8, none⟩) T.length kT_8) T)
      case first =>
        refine U_region (S := fun w' => w'.cell? ⟨bA5, oA5, none⟩ = some (.bool ge15a) ∧ w'.cell? ⟨bA5, oA5 + 1, none⟩ = some (.slice ae15a ne15a ce15a) ∧ w'.cell? ⟨bA5, oA5 + 2, none⟩ = some (.slice Ae15a Ne15a De15a) ∧ w'.cell? ⟨bA5, oA5 + (L.length - 1) * 3, none⟩ = some (.bool ge18a) ∧ w'.cell? ⟨bA5, oA5 + (L.length - 1) * 3 + 1, none⟩ = some (.slice ae18a ne18a ce18a) ∧ w'.cell? ⟨bA5, oA5 + (L.length - 1) * 3 + 2, none⟩ = some (.slice Ae18a Ne18a De18a)) (by kernel_rfl) 15 ?_
        refine AnyU.abs ?_
        intro w26 hW
        have hb : Below w25.heap.size w25 w26 := by rw [hW]; exact bDrew _
        replace hs := bStep hs hb
        replace Blinside := Blinside.mono hb
        replace h9 := h9.mono hb
        replace he15a := he15a.mono hb
        replace he18a := he18a.mono hb
        replace A5 := rowsJ PC.kept _ _ _ A5 hb
        replace B_7 := rowsJ PC.kept _ _ _ B_7 hb
        replace T_8 := rowsJ PC.kept _ _ _ T_8 hb
        replace Ee150 := cellK Ee150 hb
        replace Ee151 := cellK Ee151 hb
        replace Ee152 := cellK Ee152 hb
        replace Ee180 := cellK Ee180 hb
        replace Ee181 := cellK Ee181 hb
        replace Ee182 := cellK Ee182 hb
        clear hb hW
        have hH := (show w26.cell? ⟨bA5, oA5, none⟩ = some (.bool ge15a) ∧ w26.cell? ⟨bA5, oA5 + 1, none⟩ = some (.slice ae15a ne15a ce15a) ∧ w26.cell? ⟨bA5, oA5 + 2, none⟩ = some (.slice Ae15a Ne15a De15a) ∧ w26.cell? ⟨bA5, oA5 + (L.length - 1) * 3, none⟩ = some (.bool ge18a) ∧ w26.cell? ⟨bA5, oA5 + (L.length - 1) * 3 + 1, none⟩ = some (.slice ae18a ne18a ce18a) ∧ w26.cell? ⟨bA5, oA5 + (L.length - 1) * 3 + 2, none⟩ = some (.slice Ae18a Ne18a De18a) from ⟨Ee150, Ee151, Ee152, Ee180, Ee181, Ee182⟩)
        refine U_tt 0 ?_ ?_ hH ?_
        rotate_left
        · (intro w hSw; (try dsimp only at hSw); go_simp; try with_reducible rfl)
        try simp only [LY]
        refine U_tt 1 ?_ ?_ hH ?_
        rotate_left
        · (intro w hSw; (try dsimp only at hSw); go_simp; try with_reducible rfl)
        try simp only [LY]
        refine U_tt 2 ?_ ?_ hH ?_
        rotate_left
        · (intro w hSw; (try dsimp only at hSw); go_simp; try with_reducible rfl)
        try simp only [LY]
        refine U_tt 3 ?_ ?_ hH ?_
        rotate_left
        · (intro w hSw; (try dsimp only at hSw); go_simp; try with_reducible rfl)
        try simp only [LY]
        refine U_tt 4 ?_ ?_ hH ?_
        rotate_left
        · (intro w hSw; (try dsimp only at hSw); go_simp; try with_reducible rfl)
        try simp only [LY]
        refine U_tt 5 ?_ ?_ hH ?_
        rotate_left
        · (intro w hSw; (try dsimp only at hSw); go_simp; try with_reducible rfl)
        try simp only [LY]
        refine U_tt 6 ?_ ?_ hH ?_
        rotate_left
        · (intro w hSw; (try dsimp only at hSw); go_simp; try with_reducible rfl)
        try simp only [LY]
        refine U_tt 7 ?_ ?_ hH ?_
        rotate_left
        · (intro w hSw; (try dsimp only at hSw); go_simp; try with_reducible rfl)
        try simp only [LY]
        refine U_tt 8 ?_ ?_ hH ?_
        rotate_left
        · (intro w hSw; (try dsimp only at hSw); go_simp; try with_reducible rfl)
        try simp only [LY]
        refine U_two (i := 9) (j := 13) (by kernel_rfl) rfl rfl (fun K hK => ?_) (fun K hK => ?_)
        · clear hH
          go_simp
          (with_reducible refine (pDiv he15a he18a (SzQ.fit (HZ.out 0 (by omega))) (SzQ.fit (HZ.out (L.length - 1) (by omega))) HNE.out).mono ?_)
          rintro e w27 ⟨_, rfl, h19, hb⟩
          obtain ⟨sh19, ah19, nh19, ch19, Ah19, Nh19, Ch19, rfl⟩ := h19.shape
          replace hs := bStep hs hb
          replace Blinside := Blinside.mono hb
          replace h9 := h9.mono hb
          replace he15a := he15a.mono hb
          replace he18a := he18a.mono hb
          replace A5 := rowsJ PC.kept _ _ _ A5 hb
          replace B_7 := rowsJ PC.kept _ _ _ B_7 hb
          replace T_8 := rowsJ PC.kept _ _ _ T_8 hb
          replace Ee150 := cellK Ee150 hb
          replace Ee151 := cellK Ee151 hb
          replace Ee152 := cellK Ee152 hb
          replace Ee180 := cellK Ee180 hb
          replace Ee181 := cellK Ee181 hb
          replace Ee182 := cellK Ee182 hb
          clear hb
          try go_wp2_with fail
          refine hK.out _ _ ⟨Ee150, Ee151, Ee152, Ee180, Ee181, Ee182⟩ (fun hH => ?_)
          clear hK K
          try simp only [LY]
          refine U_tt 10 ?_ ?_ hH ?_
          rotate_left
          · (intro w hSw; (try dsimp only at hSw); go_simp; try with_reducible rfl)
          try simp only [LY]
          refine U_tt 11 ?_ ?_ hH ?_
          rotate_left
          · (intro w hSw; (try dsimp only at hSw); go_simp; try with_reducible rfl)
          try simp only [LY]
          refine U_tt 12 ?_ ?_ hH ?_
          rotate_left
          · (intro w hSw; (try dsimp only at hSw); go_simp; try with_reducible rfl)
          try simp only [LY]
          clear hH
          refine U_one (i := 13) (by kernel_rfl) rfl (fun K hK => ?_)
          go_simp
          generalize hWn : (w27.alloc (.cells #[.bool false, .slice none 0 0, .slice none 0 0] 32)) = w28
          have hb : Below w27.heap.size w27 w28 := by rw [← hWn]; exact (Below.refl _ _).alloc (Nat.le_refl _) _
          have Blpart : Bx w28 (w27.heap.size) 32 #[.bool false, .slice none 0 0, .slice none 0 0] := by rw [← hWn]; exact Bx.new _ _ _
          have ninside_part : w23.heap.size ≠ w27.heap.size := by have := Blinside.lt; omega
          have nA5_part : bA5 < w27.heap.size := A5.lt (by omega)
          have nB_7_part : bB_7 < w27.heap.size := B_7.lt (by omega)
          have nT_8_part : bT_8 < w27.heap.size := T_8.lt (by omega)
          have sz_part : w.heap.size ≤ w27.heap.size := hs.size
          replace hs := bStep hs hb
          replace Blinside := Blinside.mono hb
          replace h9 := h9.mono hb
          replace he15a := he15a.mono hb
          replace he18a := he18a.mono hb
          replace h19 := h19.mono hb
          replace A5 := rowsJ PC.kept _ _ _ A5 hb
          replace B_7 := rowsJ PC.kept _ _ _ B_7 hb
          replace T_8 := rowsJ PC.kept _ _ _ T_8 hb
          replace Ee150 := cellK Ee150 hb
          replace Ee151 := cellK Ee151 hb
          replace Ee152 := cellK Ee152 hb
          replace Ee180 := cellK Ee180 hb
          replace Ee181 := cellK Ee181 hb
          replace Ee182 := cellK Ee182 hb
          clear hb hWn
          refine hK.out _ _ ⟨Ee150, Ee151, Ee152, Ee180, Ee181, Ee182⟩ (fun hH => ?_)
          clear hK K
          try simp only [LY]
          clear hH
          have cpart_0 : w28.cell? ⟨w27.heap.size, 0, none⟩ = some (.bool false) := Blpart.at 0 rfl
          have cpart_1 : w28.cell? ⟨w27.heap.size, 1, none⟩ = some (.slice none 0 0) := Blpart.at 1 rfl
          have cpart_2 : w28.cell? ⟨w27.heap.size, 2, none⟩ = some (.slice none 0 0) := Blpart.at 2 rfl
          have fpart := Blpart.free
          have Lpart : w27.heap.size < w28.heap.size := Blpart.lt
          refine U_one (i := 14) (by kernel_rfl) rfl (fun K hK => ?_)
          go_simp
          generalize hW_ : (((w28.setCell ⟨w27.heap.size, 0, none⟩ (.bool sh19)).setCell ⟨w27.heap.size, 1, none⟩ (.slice ah19 nh19 ch19)).setCell ⟨w27.heap.size, 2, none⟩ (.slice Ah19 Nh19 Ch19)) = w29
          have hW := hW_.symm
          clear hW_
          have hG : Gr [w27.heap.size] w28 w29 := by rw [hW]; exact (Gr.refl _ _).set.set.set
          have hsz := hs.size
          have lpart := Blpart.lt
          have hbw : Below w.heap.size w28 w29 := hG.below1 hs.size (by first | omega | assumption)
          have hk : KeepD w28 w29 := hG.keep ⟨⟨_, Blpart.ty, by decide⟩, True.intro⟩
          have Bl1part : Bx w29 (w27.heap.size) 32 #[.bool sh19, .slice ah19 nh19 ch19, .slice Ah19 Nh19 Ch19] := by rw [hW]; exact Blpart.set3
          replace hs := hs.trans hbw
          replace A5 := A5.gr PC.kept hG (notMem1 (by omega)) hk
          replace B_7 := B_7.gr PC.kept hG (notMem1 (by omega)) hk
          replace T_8 := T_8.gr PC.kept hG (notMem1 (by omega)) hk
          replace Blinside := hG.bx Blinside (notMem1 (by omega))
          replace Blpart := Bl1part
          clear Bl1part
          replace h9 := h9.keep hk
          replace he15a := he15a.keep hk
          replace he18a := he18a.keep hk
          replace h19 := h19.keep hk
          replace Ee150 := hG.cell Ee150 (notMem1 (by dsimp only; omega))
          replace Ee151 := hG.cell Ee151 (notMem1 (by dsimp only; omega))
          replace Ee152 := hG.cell Ee152 (notMem1 (by dsimp only; omega))
          replace Ee180 := hG.cell Ee180 (notMem1 (by dsimp only; omega))
          replace Ee181 := hG.cell Ee181 (notMem1 (by dsimp only; omega))
          replace Ee182 := hG.cell Ee182 (notMem1 (by dsimp only; omega))
          clear hW hG hk hbw hsz lpart
          refine hK.out _ _ ⟨Ee150, Ee151, Ee152, Ee180, Ee181, Ee182⟩ (fun hH => ?_)
          clear hK K
          try simp only [LY]
          clear hH
          refine U_last (by kernel_rfl) rfl (by kernel_rfl) (fun K hK => ?_)
          go_simp
          refine hK.out _ _ ?_
          clear hK K
          intro wl hW
          rw [hW]
          clear hW wl
          try simp only [LY]
          clear Ee150 Ee151 Ee152 Ee180 Ee181 Ee182
          go_wp2_with fail
          go_meet
          exact ⟨w27.heap.size, _, _, _, _, _, _, _, rfl, rfl, (by first | exact sz_part | omega), (by omega), (by omega), (by omega), (by omega), Blpart, hs, Blinside, h9, he15a, he18a, h19, A5, B_7, T_8⟩
        · clear hH
          go_simp
          generalize hWn : (w26.alloc (.cells #[.bool false, .slice none 0 0, .slice none 0 0] 32)) = w27
          have hb : Below w26.heap.size w26 w27 := by rw [← hWn]; exact (Below.refl _ _).alloc (Nat.le_refl _) _
          have Blpart : Bx w27 (w26.heap.size) 32 #[.bool false, .slice none 0 0, .slice none 0 0] := by rw [← hWn]; exact Bx.new _ _ _
          have ninside_part : w23.heap.size ≠ w26.heap.size := by have := Blinside.lt; omega
          have nA5_part : bA5 < w26.heap.size := A5.lt (by omega)
          have nB_7_part : bB_7 < w26.heap.size := B_7.lt (by omega)
          have nT_8_part : bT_8 < w26.heap.size := T_8.lt (by omega)
          have sz_part : w.heap.size ≤ w26.heap.size := hs.size
          replace hs := bStep hs hb
          replace Blinside := Blinside.mono hb
          replace h9 := h9.mono hb
          replace he15a := he15a.mono hb
          replace he18a := he18a.mono hb
          replace A5 := rowsJ PC.kept _ _ _ A5 hb
          replace B_7 := rowsJ PC.kept _ _ _ B_7 hb
          replace T_8 := rowsJ PC.kept _ _ _ T_8 hb
          replace Ee150 := cellK Ee150 hb
          replace Ee151 := cellK Ee151 hb
          replace Ee152 := cellK Ee152 hb
          replace Ee180 := cellK Ee180 hb
          replace Ee181 := cellK Ee181 hb
          replace Ee182 := cellK Ee182 hb
          clear hb hWn
          refine hK.out _ _ ⟨Ee150, Ee151, Ee152, Ee180, Ee181, Ee182⟩ (fun hH => ?_)
          clear hK K
          try simp only [LY]
          clear hH
          refine U_one (i := 9) (by kernel_rfl) rfl (fun K hK => ?_)
          go_simp
          (with_reducible refine (pDiv he15a he18a (SzQ.fit (HZ.out 0 (by omega))) (SzQ.fit (HZ.out (L.length - 1) (by omega))) HNE.out).mono ?_)
          rintro e w28 ⟨_, rfl, h19, hb⟩
          obtain ⟨sh19, ah19, nh19, ch19, Ah19, Nh19, Ch19, rfl⟩ := h19.shape
          replace hs := bStep hs hb
          replace Blinside := Blinside.mono hb
          replace Blpart := Blpart.mono hb
          replace h9 := h9.mono hb
          replace he15a := he15a.mono hb
          replace he18a := he18a.mono hb
          replace A5 := rowsJ PC.kept _ _ _ A5 hb
          replace B_7 := rowsJ PC.kept _ _ _ B_7 hb
          replace T_8 := rowsJ PC.kept _ _ _ T_8 hb
          replace Ee150 := cellK Ee150 hb
          replace Ee151 := cellK Ee151 hb
          replace Ee152 := cellK Ee152 hb
          replace Ee180 := cellK Ee180 hb
          replace Ee181 := cellK Ee181 hb
          replace Ee182 := cellK Ee182 hb
          clear hb
          try go_wp2_with fail
          refine hK.out _ _ ⟨Ee150, Ee151, Ee152, Ee180, Ee181, Ee182⟩ (fun hH => ?_)
          clear hK K
          try simp only [LY]
          refine U_tt 10 ?_ ?_ hH ?_
          rotate_left
          · (intro w hSw; (try dsimp only at hSw); go_simp; try with_reducible rfl)
          try simp only [LY]
          refine U_tt 11 ?_ ?_ hH ?_
          rotate_left
          · (intro w hSw; (try dsimp only at hSw); go_simp; try with_reducible rfl)
          try simp only [LY]
          refine U_tt 12 ?_ ?_ hH ?_
          rotate_left
          · (intro w hSw; (try dsimp only at hSw); go_simp; try with_reducible rfl)
          try simp only [LY]
          clear hH
          have cpart_0 : w28.cell? ⟨w26.heap.size, 0, none⟩ = some (.bool false) := Blpart.at 0 rfl
          have cpart_1 : w28.cell? ⟨w26.heap.size, 1, none⟩ = some (.slice none 0 0) := Blpart.at 1 rfl
          have cpart_2 : w28.cell? ⟨w26.heap.size, 2, none⟩ = some (.slice none 0 0) := Blpart.at 2 rfl
          have fpart := Blpart.free
          have Lpart : w26.heap.size < w28.heap.size := Blpart.lt
          refine U_one (i := 14) (by kernel_rfl) rfl (fun K hK => ?_)
          go_simp
          generalize hW_ : (((w28.setCell ⟨w26.heap.size, 0, none⟩ (.bool sh19)).setCell ⟨w26.heap.size, 1, none⟩ (.slice ah19 nh19 ch19)).setCell ⟨w26.heap.size, 2, none⟩ (.slice Ah19 Nh19 Ch19)) = w29
          have hW := hW_.symm
          clear hW_
          have hG : Gr [w26.heap.size] w28 w29 := by rw [hW]; exact (Gr.refl _ _).set.set.set
          have hsz := hs.size
          have lpart := Blpart.lt
          have hbw : Below w.heap.size w28 w29 := hG.below1 hs.size (by first | omega | assumption)
          have hk : KeepD w28 w29 := hG.keep ⟨⟨_, Blpart.ty, by decide⟩, True.intro⟩
          have Bl1part : Bx w29 (w26.heap.size) 32 #[.bool sh19, .slice ah19 nh19 ch19, .slice Ah19 Nh19 Ch19] := by rw [hW]; exact Blpart.set3
          replace hs := hs.trans hbw
          replace A5 := A5.gr PC.kept hG (notMem1 (by omega)) hk
          replace B_7 := B_7.gr PC.kept hG (notMem1 (by omega)) hk
          replace T_8 := T_8.gr PC.kept hG (notMem1 (by omega)) hk
          replace Blinside := hG.bx Blinside (notMem1 (by omega))
          replace Blpart := Bl1part
          clear Bl1part
          replace h9 := h9.keep hk
          replace he15a := he15a.keep hk
          replace he18a := he18a.keep hk
          replace h19 := h19.keep hk
          replace Ee150 := hG.cell Ee150 (notMem1 (by dsimp only; omega))
          replace Ee151 := hG.cell Ee151 (notMem1 (by dsimp only; omega))
          replace Ee152 := hG.cell Ee152 (notMem1 (by dsimp only; omega))
          replace Ee180 := hG.cell Ee180 (notMem1 (by dsimp only; omega))
          replace Ee181 := hG.cell Ee181 (notMem1 (by dsimp only; omega))
          replace Ee182 := hG.cell Ee182 (notMem1 (by dsimp only; omega))
          clear hW hG hk hbw hsz lpart
          refine hK.out _ _ ⟨Ee150, Ee151, Ee152, Ee180, Ee181, Ee182⟩ (fun hH => ?_)
          clear hK K
          try simp only [LY]
          clear hH
          refine U_last (by kernel_rfl) rfl (by kernel_rfl) (fun K hK => ?_)
          go_simp
          refine hK.out _ _ ?_
          clear hK K
          intro wl hW
          rw [hW]
          clear hW wl
          try simp only [LY]
          clear Ee150 Ee151 Ee152 Ee180 Ee181 Ee182
          go_wp2_with fail
          go_meet
          exact ⟨w26.heap.size, _, _, _, _, _, _, _, rfl, rfl, (by first | exact sz_part | omega), (by omega), (by omega), (by omega), (by omega), Blpart, hs, Blinside, h9, he15a, he18a, h19, A5, B_7, T_8⟩
      case rest =>
        clear hs Ee150 Ee151 Ee152 Ee180 Ee181 Ee182 Blinside h9 he15a he18a A5 B_7 T_8
        obtain ⟨gpart, sh19, ah19, nh19, ch19, Ah19, Nh19, Ch19, rfl, rfl, hg_part, ng_part_inside, ngr_part_A5, ngr_part_B_7, ngr_part_T_8, Blpart, hs, Blinside, h9, he15a, he18a, h19, A5, B_7, T_8⟩ := hcut
        go_upto_region 15 with fail
        obtain ⟨b26, Hb26⟩ : ∃ b : Bool, b = decide ((sqQ B B.length + (sqQ T T.length * (nthQ L 0 / (nthQ L (L.length - 1))))) + I = 1) := ⟨_, rfl⟩
        replace Hb26 := Lib.hid Hb26
        refine U_region (S := fun w' => w'.cell? ⟨gpart, 0, none⟩ = some (.bool sh19) ∧ w'.cell? ⟨gpart, 1, none⟩ = some (.slice ah19 nh19 ch19) ∧ w'.cell? ⟨gpart, 2, none⟩ = some (.slice Ah19 Nh19 Ch19) ∧ w'.cell? ⟨w23.heap.size, 0, none⟩ = some (.bool sh9) ∧ w'.cell? ⟨w23.heap.size, 1, none⟩ = some (.slice ah9 nh9 ch9) ∧ w'.cell? ⟨w23.heap.size, 2, none⟩ = some (.slice Ah9 Nh9 Ch9)) (by kernel_rfl) 16 ?_
        refine AnyU.abs ?_
        intro w26 hW
        have hb : Below wc.heap.size wc w26 := by rw [hW]; exact bDrew _
        replace hs := bStep hs hb
        replace Blinside := Blinside.mono hb
        replace Blpart := Blpart.mono hb
        replace h9 := h9.mono hb
        replace he15a := he15a.mono hb
        replace he18a := he18a.mono hb
        replace h19 := h19.mono hb
        replace A5 := rowsJ PC.kept _ _ _ A5 hb
        replace B_7 := rowsJ PC.kept _ _ _ B_7 hb
        replace T_8 := rowsJ PC.kept _ _ _ T_8 hb
        clear hb hW
        have cpart_0 : w26.cell? ⟨gpart, 0, none⟩ = some (.bool sh19) := Blpart.at 0 rfl
        have cpart_1 : w26.cell? ⟨gpart, 1, none⟩ = some (.slice ah19 nh19 ch19) := Blpart.at 1 rfl
        have cpart_2 : w26.cell? ⟨gpart, 2, none⟩ = some (.slice Ah19 Nh19 Ch19) := Blpart.at 2 rfl
        have cinside_0 : w26.cell? ⟨w23.heap.size, 0, none⟩ = some (.bool sh9) := Blinside.at 0 rfl
        have cinside_1 : w26.cell? ⟨w23.heap.size, 1, none⟩ = some (.slice ah9 nh9 ch9) := Blinside.at 1 rfl
        have cinside_2 : w26.cell? ⟨w23.heap.size, 2, none⟩ = some (.slice Ah9 Nh9 Ch9) := Blinside.at 2 rfl
        have hH := (show w26.cell? ⟨gpart, 0, none⟩ = some (.bool sh19) ∧ w26.cell? ⟨gpart, 1, none⟩ = some (.slice ah19 nh19 ch19) ∧ w26.cell? ⟨gpart, 2, none⟩ = some (.slice Ah19 Nh19 Ch19) ∧ w26.cell? ⟨w23.heap.size, 0, none⟩ = some (.bool sh9) ∧ w26.cell? ⟨w23.heap.size, 1, none⟩ = some (.slice ah9 nh9 ch9) ∧ w26.cell? ⟨w23.heap.size, 2, none⟩ = some (.slice Ah9 Nh9 Ch9) from ⟨cpart_0, cpart_1, cpart_2, cinside_0, cinside_1, cinside_2⟩)
        refine U_tk 0 94 ?_ ?_ hH ?_
        rotate_left
        · (intro w hSw; (try dsimp only at hSw); go_simp; try with_reducible rfl)
        simp only [LY]
        refine U_tk 1 95 ?_ ?_ hH ?_
        rotate_left
        · (intro w hSw; (try dsimp only at hSw); go_simp; try with_reducible rfl)
        simp only [LY]
        try simp only [Bool.not_true, Bool.not_false, q3d, q4d, q6d, q10b, q10n, q11b, q11n, q13d, SW16a]
        refine U_tk 2 96 ?_ ?_ hH ?_
        rotate_left
        · (intro w hSw; (try dsimp only at hSw); go_simp; try with_reducible rfl)
        simp only [LY]
        refine U_tk 3 97 ?_ ?_ hH ?_
        rotate_left
        · (intro w hSw; (try dsimp only at hSw); go_simp; try with_reducible rfl)
        simp only [LY]
        refine U_tk 5 99 ?_ ?_ hH ?_
        rotate_left
        · (intro w hSw; (try dsimp only at hSw); go_simp; try with_reducible rfl)
        simp only [LY]
        refine U_tk 7 101 ?_ ?_ hH ?_
        rotate_left
        · (intro w hSw; (try dsimp only at hSw); go_simp; try with_reducible rfl)
        simp only [LY]
        refine U_tk 10 104 ?_ ?_ hH ?_
        rotate_left
        · (intro w hSw; (try dsimp only at hSw); go_simp; try with_reducible rfl)
        simp only [LY]
        clear hH
        refine U_one (i := 4) (by kernel_rfl) rfl (fun K hK => ?_)
        go_simp
        (with_reducible refine (l7_sum _ B_7 (by omega) (by omega) HSB.out).mono ?_)
        rintro e w27 ⟨_, rfl, h20, hb⟩
        obtain ⟨sh20, ah20, nh20, ch20, Ah20, Nh20, Ch20, rfl⟩ := h20.shape
        replace hs := bStep hs hb
        replace Blinside := Blinside.mono hb
        replace Blpart := Blpart.mono hb
        replace h9 := h9.mono hb
        replace he15a := he15a.mono hb
        replace he18a := he18a.mono hb
        replace h19 := h19.mono hb
        replace A5 := rowsJ PC.kept _ _ _ A5 hb
        replace B_7 := rowsJ PC.kept _ _ _ B_7 hb
        replace T_8 := rowsJ PC.kept _ _ _ T_8 hb
        replace cpart_0 := cellK cpart_0 hb
        replace cpart_1 := cellK cpart_1 hb
        replace cpart_2 := cellK cpart_2 hb
        replace cinside_0 := cellK cinside_0 hb
        replace cinside_1 := cellK cinside_1 hb
        replace cinside_2 := cellK cinside_2 hb
        clear hb
        try go_wp2_with fail
        refine hK.out _ _ ⟨cpart_0, cpart_1, cpart_2, cinside_0, cinside_1, cinside_2⟩ (fun hH => ?_)
        clear hK K
        try simp only [LY]
        clear hH
        refine U_one (i := 6) (by kernel_rfl) rfl (fun K hK => ?_)
        go_simp
        (with_reducible refine (l7_sum _ T_8 (by omega) (by omega) HST.out).mono ?_)
        rintro e w28 ⟨_, rfl, h21, hb⟩
        obtain ⟨sh21, ah21, nh21, ch21, Ah21, Nh21, Ch21, rfl⟩ := h21.shape
        replace hs := bStep hs hb
        replace Blinside := Blinside.mono hb
        replace Blpart := Blpart.mono hb
        replace h9 := h9.mono hb
        replace he15a := he15a.mono hb
        replace he18a := he18a.mono hb
        replace h19 := h19.mono hb
        replace h20 := h20.mono hb
        replace A5 := rowsJ PC.kept _ _ _ A5 hb
        replace B_7 := rowsJ PC.kept _ _ _ B_7 hb
        replace T_8 := rowsJ PC.kept _ _ _ T_8 hb
        replace cpart_0 := cellK cpart_0 hb
        replace cpart_1 := cellK cpart_1 hb
        replace cpart_2 := cellK cpart_2 hb
        replace cinside_0 := cellK cinside_0 hb
        replace cinside_1 := cellK cinside_1 hb
        replace cinside_2 := cellK cinside_2 hb
        clear hb
        try go_wp2_with fail
        refine hK.out _ _ ⟨cpart_0, cpart_1, cpart_2, cinside_0, cinside_1, cinside_2⟩ (fun hH => ?_)
        clear hK K
        try simp only [LY]
        clear hH
        refine U_one (i := 8) (by kernel_rfl) rfl (fun K hK => ?_)
        go_simp
        (with_reducible refine (pMul h21 h19 (SzQ.fit HQT.out) (SzQ.fit (SzQ.div (HZ.out 0 (by omega)) (HZ.out (L.length - 1) (by omega)) HNE.out))).mono ?_)
        rintro e w29 ⟨_, rfl, h22, hb⟩
        obtain ⟨sh22, ah22, nh22, ch22, Ah22, Nh22, Ch22, rfl⟩ := h22.shape
        replace hs := bStep hs hb
        replace Blinside := Blinside.mono hb
        replace Blpart := Blpart.mono hb
        replace h9 := h9.mono hb
        replace he15a := he15a.mono hb
        replace he18a := he18a.mono hb
        replace h19 := h19.mono hb
        replace h20 := h20.mono hb
        replace h21 := h21.mono hb
        replace A5 := rowsJ PC.kept _ _ _ A5 hb
        replace B_7 := rowsJ PC.kept _ _ _ B_7 hb
        replace T_8 := rowsJ PC.kept _ _ _ T_8 hb
        replace cpart_0 := cellK cpart_0 hb
        replace cpart_1 := cellK cpart_1 hb
        replace cpart_2 := cellK cpart_2 hb
        replace cinside_0 := cellK cinside_0 hb
        replace cinside_1 := cellK cinside_1 hb
        replace cinside_2 := cellK cinside_2 hb
        clear hb
        try go_wp2_with fail
        refine hK.out _ _ ⟨cpart_0, cpart_1, cpart_2, cinside_0, cinside_1, cinside_2⟩ (fun hH => ?_)
        clear hK K
        try simp only [LY]
        clear hH
        refine U_one (i := 9) (by kernel_rfl) rfl (fun K hK => ?_)
        go_simp
        (with_reducible refine (pAdd h20 h22 (SzQ.fit HQB.out) (SzQ.fit (SzQ.mul HQT.out (SzQ.div (HZ.out 0 (by omega)) (HZ.out (L.length - 1) (by omega)) HNE.out)))).mono ?_)
        rintro e w30 ⟨_, rfl, h23, hb⟩
        obtain ⟨sh23, ah23, nh23, ch23, Ah23, Nh23, Ch23, rfl⟩ := h23.shape
        replace hs := bStep hs hb
        replace Blinside := Blinside.mono hb
        replace Blpart := Blpart.mono hb
        replace h9 := h9.mono hb
        replace he15a := he15a.mono hb
        replace he18a := he18a.mono hb
        replace h19 := h19.mono hb
        replace h20 := h20.mono hb
        replace h21 := h21.mono hb
        replace h22 := h22.mono hb
        replace A5 := rowsJ PC.kept _ _ _ A5 hb
        replace B_7 := rowsJ PC.kept _ _ _ B_7 hb
        replace T_8 := rowsJ PC.kept _ _ _ T_8 hb
        replace cpart_0 := cellK cpart_0 hb
        replace cpart_1 := cellK cpart_1 hb
        replace cpart_2 := cellK cpart_2 hb
        replace cinside_0 := cellK cinside_0 hb
        replace cinside_1 := cellK cinside_1 hb
        replace cinside_2 := cellK cinside_2 hb
        clear hb
        try go_wp2_with fail
        refine hK.out _ _ ⟨cpart_0, cpart_1, cpart_2, cinside_0, cinside_1, cinside_2⟩ (fun hH => ?_)
        clear hK K
        try simp only [LY]
        clear hH
        refine U_one (i := 11) (by kernel_rfl) rfl (fun K hK => ?_)
        go_simp
        (with_reducible refine (pAdd h23 h9 (SzQ.fit (SzQ.add HQB.out (SzQ.mul HQT.out (SzQ.div (HZ.out 0 (by omega)) (HZ.out (L.length - 1) (by omega)) HNE.out)))) (SzQ.fit HSI.out)).mono ?_)
        rintro e w31 ⟨_, rfl, h24, hb⟩
        obtain ⟨sh24, ah24, nh24, ch24, Ah24, Nh24, Ch24, rfl⟩ := h24.shape
        replace hs := bStep hs hb
        replace Blinside := Blinside.mono hb
        replace Blpart := Blpart.mono hb
        replace h9 := h9.mono hb
        replace he15a := he15a.mono hb
        replace he18a := he18a.mono hb
        replace h19 := h19.mono hb
        replace h20 := h20.mono hb
        replace h21 := h21.mono hb
        replace h22 := h22.mono hb
        replace h23 := h23.mono hb
        replace A5 := rowsJ PC.kept _ _ _ A5 hb
        replace B_7 := rowsJ PC.kept _ _ _ B_7 hb
        replace T_8 := rowsJ PC.kept _ _ _ T_8 hb
        replace cpart_0 := cellK cpart_0 hb
        replace cpart_1 := cellK cpart_1 hb
        replace cpart_2 := cellK cpart_2 hb
        replace cinside_0 := cellK cinside_0 hb
        replace cinside_1 := cellK cinside_1 hb
        replace cinside_2 := cellK cinside_2 hb
        clear hb
        try go_wp2_with fail
        refine hK.out _ _ ⟨cpart_0, cpart_1, cpart_2, cinside_0, cinside_1, cinside_2⟩ (fun hH => ?_)
        clear hK K
        try simp only [LY]
        clear hH
        refine U_one (i := 12) (by kernel_rfl) rfl (fun K hK => ?_)
        go_simp
        (with_reducible refine (p_Int1 _).mono ?_)
        rintro e w32 ⟨_, rfl, h25, hb⟩
        obtain ⟨sh25, ah25, nh25, ch25, Ah25, Nh25, Ch25, rfl⟩ := h25.shape
        replace hs := bStep hs hb
        replace Blinside := Blinside.mono hb
        replace Blpart := Blpart.mono hb
        replace h9 := h9.mono hb
        replace he15a := he15a.mono hb
        replace he18a := he18a.mono hb
        replace h19 := h19.mono hb
        replace h20 := h20.mono hb
        replace h21 := h21.mono hb
        replace h22 := h22.mono hb
        replace h23 := h23.mono hb
        replace h24 := h24.mono hb
        replace A5 := rowsJ PC.kept _ _ _ A5 hb
        replace B_7 := rowsJ PC.kept _ _ _ B_7 hb
        replace T_8 := rowsJ PC.kept _ _ _ T_8 hb
        replace cpart_0 := cellK cpart_0 hb
        replace cpart_1 := cellK cpart_1 hb
        replace cpart_2 := cellK cpart_2 hb
        replace cinside_0 := cellK cinside_0 hb
        replace cinside_1 := cellK cinside_1 hb
        replace cinside_2 := cellK cinside_2 hb
        clear hb
        try go_wp2_with fail
        refine hK.out _ _ ⟨cpart_0, cpart_1, cpart_2, cinside_0, cinside_1, cinside_2⟩ (fun hH => ?_)
        clear hK K
        try simp only [LY]
        clear hH
        refine U_one (i := 13) (by kernel_rfl) rfl (fun K hK => ?_)
        go_simp
        (with_reducible refine (p_Same_calls _ _ _ _ _ h24 h25).mono ?_)
        rintro e w33 ⟨rfl, hb⟩
        replace hs := bStep hs hb
        replace Blinside := Blinside.mono hb
        replace Blpart := Blpart.mono hb
        replace h9 := h9.mono hb
        replace he15a := he15a.mono hb
        replace he18a := he18a.mono hb
        replace h19 := h19.mono hb
        replace h20 := h20.mono hb
        replace h21 := h21.mono hb
        replace h22 := h22.mono hb
        replace h23 := h23.mono hb
        replace h24 := h24.mono hb
        replace h25 := h25.mono hb
        replace A5 := rowsJ PC.kept _ _ _ A5 hb
        replace B_7 := rowsJ PC.kept _ _ _ B_7 hb
        replace T_8 := rowsJ PC.kept _ _ _ T_8 hb
        replace cpart_0 := cellK cpart_0 hb
        replace cpart_1 := cellK cpart_1 hb
        replace cpart_2 := cellK cpart_2 hb
        replace cinside_0 := cellK cinside_0 hb
        replace cinside_1 := cellK cinside_1 hb
        replace cinside_2 := cellK cinside_2 hb
        clear hb
        rw [← Hb26.out]
        try go_wp2_with fail
        refine hK.out _ _ ⟨cpart_0, cpart_1, cpart_2, cinside_0, cinside_1, cinside_2⟩ (fun hH => ?_)
        clear hK K
        try simp only [LY]
        refine U_tk 14 108 ?_ ?_ hH ?_
        rotate_left
        · (intro w hSw; (try dsimp only at hSw); go_simp; try with_reducible rfl)
        simp only [LY]
        try simp only [Bool.not_true, Bool.not_false, q3d, q4d, q6d, q10b, q10n, q11b, q11n, q13d, SW16a]
        refine U_tk 15 109 ?_ ?_ hH ?_
        rotate_left
        · (intro w hSw; (try dsimp only at hSw); go_simp; try with_reducible rfl)
        simp only [LY]
        clear hH
        refine U_endN (by kernel_rfl) ?_
        clear cpart_0 cpart_1 cpart_2 cinside_0 cinside_1 cinside_2
        have q27 : (sqQ B B.length + (sqQ T T.length * (nthQ L 0 / (nthQ L (L.length - 1))))) + I = 1 := HE.out
        obtain rfl : b26 = true := by rw [Hb26.out]; exact decide_eq_true q27
        have q27H := Lib.hid q27
        clear q27
        go_wp2
        simp only [Bool.not_true]
        go_wp2
        have HB0_28 := Lib.hid hs
        clear hs
        have hs := Below.refl w33.heap.size w33
        have nb_inside : w23.heap.size < w33.heap.size := Blinside.lt
        have nb_part : gpart < w33.heap.size := Blpart.lt
        have FA5 := Lib.hid A5
        clear A5
        have FB_7 := Lib.hid B_7
        clear B_7
        have FT_8 := Lib.hid T_8
        clear T_8
        go_loopw [15, 112] (fun s15 s112 wq => ∃ j : Nat, j ≤ L.length ∧ s112 = .int .i64 j ∧ Below w33.heap.size w33 wq ∧ Bx wq (w23.heap.size) 32 #[.bool sh9, .slice ah9 nh9 ch9, .slice Ah9 Nh9 Ch9] ∧ Bx wq (gpart) 32 #[.bool sh19, .slice ah19 nh19 ch19, .slice Ah19 Nh19 Ch19] ∧ PV wq (.agg #[.bool sh9, .slice ah9 nh9 ch9, .slice Ah9 Nh9 Ch9]) (I) ∧ PV wq (.agg #[.bool ge15a, .slice ae15a ne15a ce15a, .slice Ae15a Ne15a De15a]) (nthQ L 0) ∧ PV wq (.agg #[.bool ge18a, .slice ae18a ne18a ce18a, .slice Ae18a Ne18a De18a]) (nthQ L (L.length - 1)) ∧ PV wq (.agg #[.bool sh19, .slice ah19 nh19 ch19, .slice Ah19 Nh19 Ch19]) (nthQ L 0 / (nthQ L (L.length - 1))) ∧ PV wq (.agg #[.bool sh20, .slice ah20 nh20 ch20, .slice Ah20 Nh20 Ch20]) (sqQ B B.length) ∧ PV wq (.agg #[.bool sh21, .slice ah21 nh21 ch21, .slice Ah21 Nh21 Ch21]) (sqQ T T.length) ∧ PV wq (.agg #[.bool sh22, .slice ah22 nh22 ch22, .slice Ah22 Nh22 Ch22]) (sqQ T T.length * (nthQ L 0 / (nthQ L (L.length - 1)))) ∧ PV wq (.agg #[.bool sh23, .slice ah23 nh23 ch23, .slice Ah23 Nh23 Ch23]) (sqQ B B.length + (sqQ T T.length * (nthQ L 0 / (nthQ L (L.length - 1))))) ∧ PV wq (.agg #[.bool sh24, .slice ah24 nh24 ch24, .slice Ah24 Nh24 Ch24]) ((sqQ B B.length + (sqQ T T.length * (nthQ L 0 / (nthQ L (L.length - 1))))) + I) ∧ PV wq (.agg #[.bool sh25, .slice ah25 nh25 ch25, .slice Ah25 Nh25 Ch25]) (1) ∧ OwnR w33.heap.size 45 9 (C3 PC) wq s15 (layJ L j)) (fun s15 s112 _ => L.length - (intOf s112).toNat)
        case atStart => exact ⟨0, Nat.zero_le _, rfl, hs, Blinside, Blpart, h9, he15a, he18a, h19, h20, h21, h22, h23, h24, h25, OwnR.nil _ _ _ _ _⟩
        case round =>
          clear Blinside Blpart h9 he15a he18a h19 h20 h21 h22 h23 h24 h25 hs
          obtain ⟨j, k_le, rfl, hs, Blinside, Blpart, h9, he15a, he18a, h19, h20, h21, h22, h23, h24, h25, Opl⟩ := hrel
          have lnl : (layJ L j).length ≤ j := Nat.le_of_eq (layJ_len (L := L) j)
          by_cases q29 : j < L.length
          · have q29d : ((j : Int) < (L.length : Int)) = True := eq_true (by omega)
            have BI30a : j < L.length := by omega
            have BI30b : ((j : Int) : Int) < (L.length : Int) := by omega
            obtain ⟨ge31a, ae31a, ne31a, ce31a, Ae31a, Ne31a, De31a, Ee310, Ee311, Ee312, he31a, le31⟩ := rowP_at (rowsJ PC.kept _ _ _ FA5.out hs) (show j < L.length by omega)
            go_upto_region 21 with fail
            clear le31 Ee310 Ee311 Ee312
            refine Code.abs ?_
            intro w54 hW
            have hG : Gr [] wr w54 := by rw [hW]; exact (Gr.refl _ _).alloc
            have hbw : Below w33.heap.size wr w54 := hG.below0 hs.size
            have hk : KeepD wr w54 := hG.keep True.intro
            have sz_w54 : w33.heap.size ≤ wr.heap.size := hs.size
            have ninside_w54 : w23.heap.size < wr.heap.size := Blinside.lt
            have npart_w54 : gpart < wr.heap.size := Blpart.lt
            have Blx : Bx w54 (wr.heap.size) 32 #[.bool ge31a, .slice ae31a ne31a ce31a, .slice Ae31a Ne31a De31a] := by rw [hW]; exact (Bx.new0 _ _ _)
            replace hs := hs.trans hbw
            replace Blinside := hG.bx Blinside notMem0
            replace Blpart := hG.bx Blpart notMem0
            replace h9 := h9.keep hk
            replace he15a := he15a.keep hk
            replace he18a := he18a.keep hk
            replace h19 := h19.keep hk
            replace h20 := h20.keep hk
            replace h21 := h21.keep hk
            replace h22 := h22.keep hk
            replace h23 := h23.keep hk
            replace h24 := h24.keep hk
            replace h25 := h25.keep hk
            replace he31a := he31a.keep hk
            replace Opl := Opl.mono (C3.kept PC.kept) (hG.below0 (Nat.le_refl _))
            clear hW hG hk hbw
            have hz_w54 : wr.heap.size < w54.heap.size := Blx.lt
            refine U_region (S := fun w' => w'.cell? ⟨wr.heap.size, 0, none⟩ = some (.bool ge31a) ∧ w'.cell? ⟨wr.heap.size, 1, none⟩ = some (.slice ae31a ne31a ce31a) ∧ w'.cell? ⟨wr.heap.size, 2, none⟩ = some (.slice Ae31a Ne31a De31a)) (by kernel_rfl) 7 ?_
            refine AnyU.abs ?_
            intro w55 hW
            have hb : Below w54.heap.size w54 w55 := by rw [hW]; exact bDrew _
            replace hs := bStep hs hb
            replace Blinside := Blinside.mono hb
            replace Blpart := Blpart.mono hb
            replace Blx := Blx.mono hb
            replace h9 := h9.mono hb
            replace he15a := he15a.mono hb
            replace he18a := he18a.mono hb
            replace h19 := h19.mono hb
            replace h20 := h20.mono hb
            replace h21 := h21.mono hb
            replace h22 := h22.mono hb
            replace h23 := h23.mono hb
            replace h24 := h24.mono hb
            replace h25 := h25.mono hb
            replace he31a := he31a.mono hb
            replace Opl := Opl.mono (C3.kept PC.kept) hb
            clear hb hW
            have cx_0 : w55.cell? ⟨wr.heap.size, 0, none⟩ = some (.bool ge31a) := Blx.at 0 rfl
            have cx_1 : w55.cell? ⟨wr.heap.size, 1, none⟩ = some (.slice ae31a ne31a ce31a) := Blx.at 1 rfl
            have cx_2 : w55.cell? ⟨wr.heap.size, 2, none⟩ = some (.slice Ae31a Ne31a De31a) := Blx.at 2 rfl
            have hH := (show w55.cell? ⟨wr.heap.size, 0, none⟩ = some (.bool ge31a) ∧ w55.cell? ⟨wr.heap.size, 1, none⟩ = some (.slice ae31a ne31a ce31a) ∧ w55.cell? ⟨wr.heap.size, 2, none⟩ = some (.slice Ae31a Ne31a De31a) from ⟨cx_0, cx_1, cx_2⟩)
            refine U_tt 0 ?_ ?_ hH ?_
            rotate_left
            · (intro w hSw; (try dsimp only at hSw); go_simp; try with_reducible rfl)
            try simp only [LY]
            refine U_tt 1 ?_ ?_ hH ?_
            rotate_left
            · (intro w hSw; (try dsimp only at hSw); go_simp; try with_reducible rfl)
            try simp only [LY]
            clear hH
            refine U_one (i := 2) (by kernel_rfl) rfl (fun K hK => ?_)
            go_simp
            (with_reducible refine (p_Int1 _).mono ?_)
            rintro e w56 ⟨_, rfl, h32, hb⟩
            obtain ⟨sh32, ah32, nh32, ch32, Ah32, Nh32, Ch32, rfl⟩ := h32.shape
            replace hs := bStep hs hb
            replace Blinside := Blinside.mono hb
            replace Blpart := Blpart.mono hb
            replace Blx := Blx.mono hb
            replace h9 := h9.mono hb
            replace he15a := he15a.mono hb
            replace he18a := he18a.mono hb
            replace h19 := h19.mono hb
            replace h20 := h20.mono hb
            replace h21 := h21.mono hb
            replace h22 := h22.mono hb
            replace h23 := h23.mono hb
            replace h24 := h24.mono hb
            replace h25 := h25.mono hb
            replace he31a := he31a.mono hb
            replace Opl := Opl.mono (C3.kept PC.kept) hb
            replace cx_0 := cellK cx_0 hb
            replace cx_1 := cellK cx_1 hb
            replace cx_2 := cellK cx_2 hb
            clear hb
            try go_wp2_with fail
            refine hK.out _ _ ⟨cx_0, cx_1, cx_2⟩ (fun hH => ?_)
            clear hK K
            try simp only [LY]
            clear hH
            refine U_one (i := 3) (by kernel_rfl) rfl (fun K hK => ?_)
            go_simp
            (with_reducible refine (p_Int1 _).mono ?_)
            rintro e w57 ⟨_, rfl, h33, hb⟩
            obtain ⟨sh33, ah33, nh33, ch33, Ah33, Nh33, Ch33, rfl⟩ := h33.shape
            replace hs := bStep hs hb
            replace Blinside := Blinside.mono hb
            replace Blpart := Blpart.mono hb
            replace Blx := Blx.mono hb
            replace h9 := h9.mono hb
            replace he15a := he15a.mono hb
            replace he18a := he18a.mono hb
            replace h19 := h19.mono hb
            replace h20 := h20.mono hb
            replace h21 := h21.mono hb
            replace h22 := h22.mono hb
            replace h23 := h23.mono hb
            replace h24 := h24.mono hb
            replace h25 := h25.mono hb
            replace he31a := he31a.mono hb
            replace h32 := h32.mono hb
            replace Opl := Opl.mono (C3.kept PC.kept) hb
            replace cx_0 := cellK cx_0 hb
            replace cx_1 := cellK cx_1 hb
            replace cx_2 := cellK cx_2 hb
            clear hb
            try go_wp2_with fail
            refine hK.out _ _ ⟨cx_0, cx_1, cx_2⟩ (fun hH => ?_)
            clear hK K
            try simp only [LY]
            refine U_tt 4 ?_ ?_ hH ?_
            rotate_left
            · (intro w hSw; (try dsimp only at hSw); go_simp; try with_reducible rfl)
            try simp only [LY]
            clear hH
            refine U_one (i := 5) (by kernel_rfl) rfl (fun K hK => ?_)
            go_simp
            generalize hWn : (w57.alloc (.cells #[.bool ge31a, .slice ae31a ne31a ce31a, .slice Ae31a Ne31a De31a, .bool sh32, .slice ah32 nh32 ch32, .slice Ah32 Nh32 Ch32, .bool sh33, .slice ah33 nh33 ch33, .slice Ah33 Nh33 Ch33] 45)) = w58
            have hb : Below w57.heap.size w57 w58 := by rw [← hWn]; exact (Below.refl _ _).alloc (Nat.le_refl _) _
            have Blls : Bx w58 (w57.heap.size) 45 #[.bool ge31a, .slice ae31a ne31a ce31a, .slice Ae31a Ne31a De31a, .bool sh32, .slice ah32 nh32 ch32, .slice Ah32 Nh32 Ch32, .bool sh33, .slice ah33 nh33 ch33, .slice Ah33 Nh33 Ch33] := by rw [← hWn]; exact Bx.new _ _ _
            have ninside_ls : w23.heap.size ≠ w57.heap.size := by have := Blinside.lt; omega
            have npart_ls : gpart ≠ w57.heap.size := by have := Blpart.lt; omega
            have nx_ls : wr.heap.size ≠ w57.heap.size := by have := Blx.lt; omega
            have sz_ls : w33.heap.size ≤ w57.heap.size := hs.size
            replace hs := bStep hs hb
            replace Blinside := Blinside.mono hb
            replace Blpart := Blpart.mono hb
            replace Blx := Blx.mono hb
            replace h9 := h9.mono hb
            replace he15a := he15a.mono hb
            replace he18a := he18a.mono hb
            replace h19 := h19.mono hb
            replace h20 := h20.mono hb
            replace h21 := h21.mono hb
            replace h22 := h22.mono hb
            replace h23 := h23.mono hb
            replace h24 := h24.mono hb
            replace h25 := h25.mono hb
            replace he31a := he31a.mono hb
            replace h32 := h32.mono hb
            replace h33 := h33.mono hb
            replace Opl := Opl.mono (C3.kept PC.kept) hb
            replace cx_0 := cellK cx_0 hb
            replace cx_1 := cellK cx_1 hb
            replace cx_2 := cellK cx_2 hb
            clear hb hWn
            refine hK.out _ _ ⟨cx_0, cx_1, cx_2⟩ (fun hH => ?_)
            clear hK K
            try simp only [LY]
            clear hH
            refine U_one (i := 6) (by kernel_rfl) rfl (fun K hK => ?_)
            obtain ⟨css, ho1, ho2, ho3, hown0⟩ := Opl
            simp only [List.getElem_toArray, List.getElem_cons_succ, List.getElem_cons_zero]
            rw [if_pos (by rfl)]
            refine wp_append_lies _ _ _ _ (by rfl) w33.heap.size 45 i0 _ 9 168 Try.underlying43 hi hz0 hz1 hz2 (by rfl) (by omega) _ _ css.flatten (by rfl) hown0 ⟨w57.heap.size, 0, none⟩ 1 1 [.bool ge31a, .slice ae31a ne31a ce31a, .slice Ae31a Ne31a De31a, .bool sh32, .slice ah32 nh32 ch32, .slice Ah32 Nh32 Ch32, .bool sh33, .slice ah33 nh33 ch33, .slice Ah33 Nh33 Ch33] (by rfl) (by rfl) Blls.news ?_ (by omega) ?_ ?_ ?_ _ rfl ?_
            · intro u hu; simp only [List.mem_cons, List.mem_nil_iff, or_false] at hu; rcases hu with rfl | rfl | rfl | rfl | rfl | rfl | rfl | rfl | rfl <;> rfl
            · unfold maxLen; (try simp only [List.length_append, List.length_cons, List.length_nil]); omega
            · (try simp only [List.length_append, List.length_cons, List.length_nil]); omega
            · exact hs.size
            intro gpl cappl w59 hown1 hgrow hat hlt
            have hk := KeepD.owns hown0 hgrow (by decide)
            have ho := owns_onlyT hown0 hgrow
            replace hs := hs.grown hgrow hs.size (fun k hk => (hown0.lt k hk).1)
            replace Opl := OwnR.push (C3.kept PC.kept) ho1 ho2 ho3 (x := (nthQ L j, 1, 1)) rfl ⟨[_, _, _], [_, _, _], [_, _, _], rfl, ⟨_, _, _, rfl, he31a⟩, ⟨_, _, _, rfl, h32⟩, ⟨_, _, _, rfl, h33⟩⟩ hown1 hk
            replace Blinside := Blinside.only ho (by decide)
            replace Blpart := Blpart.only ho (by decide)
            replace Blx := Blx.only ho (by decide)
            replace h9 := h9.keep hk
            replace he15a := he15a.keep hk
            replace he18a := he18a.keep hk
            replace h19 := h19.keep hk
            replace h20 := h20.keep hk
            replace h21 := h21.keep hk
            replace h22 := h22.keep hk
            replace h23 := h23.keep hk
            replace h24 := h24.keep hk
            replace h25 := h25.keep hk
            replace he31a := he31a.keep hk
            replace h32 := h32.keep hk
            replace h33 := h33.keep hk
            replace cx_0 := Blx.at 0 rfl
            replace cx_1 := Blx.at 1 rfl
            replace cx_2 := Blx.at 2 rfl
            clear hk ho ho1 ho2 ho3 hown0 hown1 hgrow Blls
            refine hK.out _ _ ⟨cx_0, cx_1, cx_2⟩ (fun hH => ?_)
            clear hK K
            try simp only [LY]
            clear hH
            refine U_last (by kernel_rfl) rfl (by kernel_rfl) (fun K hK => ?_)
            go_simp
            refine hK.out _ _ ?_
            clear hK K
            intro wl hW
            rw [hW]
            clear hW wl
            try simp only [LY]
            clear cx_0 cx_1 cx_2
            go_wp2
            go_roundw
            case rel => exact ⟨j + 1, by omega, by go_num, hs, Blinside, Blpart, h9, he15a, he18a, h19, h20, h21, h22, h23, h24, h25, Opl⟩
            all_goals first | (simp [intOf]; done) | (simp [intOf]; omega)
          · have q29d : ((j : Int) < (L.length : Int)) = False := eq_false (by omega)
            obtain rfl : j = L.length := by omega
            have hC := Opl.rows
            rw [HLE.out] at hC
            clear Opl lnl
            obtain ⟨bhC, ohC, khC, rfl, hC1, hC2, -⟩ := hC.open_ (by omega)
            have A5 := rowsJ PC.kept _ _ _ FA5.out hs
            have B_7 := rowsJ PC.kept _ _ _ FB_7.out hs
            have T_8 := rowsJ PC.kept _ _ _ FT_8.out hs
            replace hs := bStep HB0_28.out hs
            go_wp2_with fail
            with_reducible refine (sc_Echoes_ok _ LE 1 _ hC (by omega) (by omega) HLP.out (by omega) HLZ.out).mono ?_
            rintro e w54 ⟨_, _, rfl, X_30, rfl, hb⟩
            rw [HX.out] at X_30
            obtain ⟨bX_30, oX_30, kX_30, rfl, X_301, X_302, -⟩ := X_30.open_ (by omega)
            replace hs := bStep hs hb
            replace Blinside := Blinside.mono hb
            replace Blpart := Blpart.mono hb
            replace h9 := h9.mono hb
            replace he15a := he15a.mono hb
            replace he18a := he18a.mono hb
            replace h19 := h19.mono hb
            replace h20 := h20.mono hb
            replace h21 := h21.mono hb
            replace h22 := h22.mono hb
            replace h23 := h23.mono hb
            replace h24 := h24.mono hb
            replace h25 := h25.mono hb
            replace hC := rowsJ (C3.kept PC.kept) _ _ _ hC hb
            replace A5 := rowsJ PC.kept _ _ _ A5 hb
            replace B_7 := rowsJ PC.kept _ _ _ B_7 hb
            replace T_8 := rowsJ PC.kept _ _ _ T_8 hb
            clear hb
            go_upto_region 24 with fail
            have q31 : (X.length : Int) = (L.length : Int) - 1 := (by omega)
            have q31b : ((X.length : Int) == (L.length : Int) - 1) = true := beq_iff_eq.2 (by omega)
            have q31n : ((X.length : Int) != (L.length : Int) - 1) = false := bne_eq_false_iff_eq.2 (by omega)
            have q31H := Lib.hid q31
            clear q31
            have BI32a : 0 < B.length := by omega
            have BI32b : (0 : Int) < (B.length : Int) := by omega
            obtain ⟨ge33a, ae33a, ne33a, ce33a, Ae33a, Ne33a, De33a, Ee330, Ee331, Ee332, he33a, le33⟩ := rowP_at B_7 (show 0 < B.length by omega)
            simp only [Nat.zero_mul, Nat.add_zero] at Ee330 Ee331 Ee332
            have BI34a : 0 < X.length := by omega
            have BI34b : (0 : Int) < (X.length : Int) := by omega
            obtain ⟨ge35a, ae35a, ne35a, ce35a, Ae35a, Ne35a, De35a, ge35b, ae35b, ne35b, ce35b, Ae35b, Ne35b, De35b, Ee350, Ee351, Ee352, Ee353, Ee354, Ee355, he35a, he35b, le35⟩ := rowSP_at X_30 (show 0 < X.length by omega)
            simp only [Nat.zero_mul, Nat.add_zero] at Ee350 Ee351 Ee352 Ee353 Ee354 Ee355
            obtain ⟨b36, Hb36⟩ : ∃ b : Bool, b = decide (nthQ B 0 = vaQ X 0) := ⟨_, rfl⟩
            replace Hb36 := Lib.hid Hb36
            refine U_region (S := fun w' => w'.cell? ⟨bB_7, oB_7, none⟩ = some (.bool ge33a) ∧ w'.cell? ⟨bB_7, oB_7 + 1, none⟩ = some (.slice ae33a ne33a ce33a) ∧ w'.cell? ⟨bB_7, oB_7 + 2, none⟩ = some (.slice Ae33a Ne33a De33a) ∧ w'.cell? ⟨bX_30, oX_30, none⟩ = some (.bool ge35a) ∧ w'.cell? ⟨bX_30, oX_30 + 1, none⟩ = some (.slice ae35a ne35a ce35a) ∧ w'.cell? ⟨bX_30, oX_30 + 2, none⟩ = some (.slice Ae35a Ne35a De35a) ∧ w'.cell? ⟨bX_30, oX_30 + 3, none⟩ = some (.bool ge35b) ∧ w'.cell? ⟨bX_30, oX_30 + 4, none⟩ = some (.slice ae35b ne35b ce35b) ∧ w'.cell? ⟨bX_30, oX_30 + 5, none⟩ = some (.slice Ae35b Ne35b De35b)) (by kernel_rfl) 21 ?_
            refine AnyU.abs ?_
            intro w55 hW
            have hb : Below w54.heap.size w54 w55 := by rw [hW]; exact bDrew _
            replace hs := bStep hs hb
            replace Blinside := Blinside.mono hb
            replace Blpart := Blpart.mono hb
            replace h9 := h9.mono hb
            replace he15a := he15a.mono hb
            replace he18a := he18a.mono hb
            replace h19 := h19.mono hb
            replace h20 := h20.mono hb
            replace h21 := h21.mono hb
            replace h22 := h22.mono hb
            replace h23 := h23.mono hb
            replace h24 := h24.mono hb
            replace h25 := h25.mono hb
            replace he33a := he33a.mono hb
            replace he35a := he35a.mono hb
            replace he35b := he35b.mono hb
            replace hC := rowsJ (C3.kept PC.kept) _ _ _ hC hb
            replace A5 := rowsJ PC.kept _ _ _ A5 hb
            replace B_7 := rowsJ PC.kept _ _ _ B_7 hb
            replace T_8 := rowsJ PC.kept _ _ _ T_8 hb
            replace X_30 := rowsJ (C2.kept PC.kept) _ _ _ X_30 hb
            replace Ee330 := cellK Ee330 hb
            replace Ee331 := cellK Ee331 hb
            replace Ee332 := cellK Ee332 hb
            replace Ee350 := cellK Ee350 hb
            replace Ee351 := cellK Ee351 hb
            replace Ee352 := cellK Ee352 hb
            replace Ee353 := cellK Ee353 hb
            replace Ee354 := cellK Ee354 hb
            replace Ee355 := cellK Ee355 hb
            clear hb hW
            have hH := (show w55.cell? ⟨bB_7, oB_7, none⟩ = some (.bool ge33a) ∧ w55.cell? ⟨bB_7, oB_7 + 1, none⟩ = some (.slice ae33a ne33a ce33a) ∧ w55.cell? ⟨bB_7, oB_7 + 2, none⟩ = some (.slice Ae33a Ne33a De33a) ∧ w55.cell? ⟨bX_30, oX_30, none⟩ = some (.bool ge35a) ∧ w55.cell? ⟨bX_30, oX_30 + 1, none⟩ = some (.slice ae35a ne35a ce35a) ∧ w55.cell? ⟨bX_30, oX_30 + 2, none⟩ = some (.slice Ae35a Ne35a De35a) ∧ w55.cell? ⟨bX_30, oX_30 + 3, none⟩ = some (.bool ge35b) ∧ w55.cell? ⟨bX_30, oX_30 + 4, none⟩ = some (.slice ae35b ne35b ce35b) ∧ w55.cell? ⟨bX_30, oX_30 + 5, none⟩ = some (.slice Ae35b Ne35b De35b) from ⟨Ee330, Ee331, Ee332, Ee350, Ee351, Ee352, Ee353, Ee354, Ee355⟩)
            refine U_tk 0 129 ?_ ?_ hH ?_
            rotate_left
            · (intro w hSw; (try dsimp only at hSw); go_simp; try with_reducible rfl)
            simp only [LY]
            refine U_tk 1 130 ?_ ?_ hH ?_
            rotate_left
            · (intro w hSw; (try dsimp only at hSw); go_simp; try with_reducible rfl)
            simp only [LY]
            try simp only [Bool.not_true, Bool.not_false, q3d, q4d, q6d, q10b, q10n, q11b, q11n, q13d, q29d, q31b, q31n, SW16a]
            refine U_tk 2 131 ?_ ?_ hH ?_
            rotate_left
            · (intro w hSw; (try dsimp only at hSw); go_simp; try with_reducible rfl)
            simp only [LY]
            refine U_tk 3 132 ?_ ?_ hH ?_
            rotate_left
            · (intro w hSw; (try dsimp only at hSw); go_simp; try with_reducible rfl)
            simp only [LY]
            refine U_tk 4 133 ?_ ?_ hH ?_
            rotate_left
            · (intro w hSw; (try dsimp only at hSw); go_simp; try with_reducible rfl)
            simp only [LY]
            refine U_tk 5 134 ?_ ?_ hH ?_
            rotate_left
            · (intro w hSw; (try dsimp only at hSw); go_simp; try with_reducible rfl)
            simp only [LY]
            refine U_tk 6 135 ?_ ?_ hH ?_
            rotate_left
            · (intro w hSw; (try dsimp only at hSw); go_simp; try with_reducible rfl)
            simp only [LY]
            refine U_tk 7 136 ?_ ?_ hH ?_
            rotate_left
            · (intro w hSw; (try dsimp only at hSw); go_simp; try with_reducible rfl)
            simp only [LY]
            try simp only [Bool.not_true, Bool.not_false, q3d, q4d, q6d, q10b, q10n, q11b, q11n, q13d, q29d, q31b, q31n, SW16a]
            refine U_tk 8 137 ?_ ?_ hH ?_
            rotate_left
            · (intro w hSw; (try dsimp only at hSw); go_simp; try with_reducible rfl)
            simp only [LY]
            try simp only [Bool.not_true, Bool.not_false, q3d, q4d, q6d, q10b, q10n, q11b, q11n, q13d, q29d, q31b, q31n, SW16a]
            refine U_tk 9 138 ?_ ?_ hH ?_
            rotate_left
            · (intro w hSw; (try dsimp only at hSw); go_simp; try with_reducible rfl)
            simp only [LY]
            refine U_tk 10 139 ?_ ?_ hH ?_
            rotate_left
            · (intro w hSw; (try dsimp only at hSw); go_simp; try with_reducible rfl)
            simp only [LY]
            refine U_tk 11 140 ?_ ?_ hH ?_
            rotate_left
            · (intro w hSw; (try dsimp only at hSw); go_simp; try with_reducible rfl)
            simp only [LY]
            refine U_tk 12 141 ?_ ?_ hH ?_
            rotate_left
            · (intro w hSw; (try dsimp only at hSw); go_simp; try with_reducible rfl)
            simp only [LY]
            refine U_tk 13 142 ?_ ?_ hH ?_
            rotate_left
            · (intro w hSw; (try dsimp only at hSw); go_simp; try with_reducible rfl)
            simp only [LY]
            refine U_tk 14 143 ?_ ?_ hH ?_
            rotate_left
            · (intro w hSw; (try dsimp only at hSw); go_simp; try with_reducible rfl)
            simp only [LY]
            refine U_tk 15 144 ?_ ?_ hH ?_
            rotate_left
            · (intro w hSw; (try dsimp only at hSw); go_simp; try with_reducible rfl)
            simp only [LY]
            refine U_tk 16 145 ?_ ?_ hH ?_
            rotate_left
            · (intro w hSw; (try dsimp only at hSw); go_simp; try with_reducible rfl)
            simp only [LY]
            refine U_tk 17 146 ?_ ?_ hH ?_
            rotate_left
            · (intro w hSw; (try dsimp only at hSw); go_simp; try with_reducible rfl)
            simp only [LY]
            clear hH
            refine U_one (i := 18) (by kernel_rfl) rfl (fun K hK => ?_)
            go_simp
            (with_reducible refine (p_Same_calls _ _ _ _ _ he33a he35b).mono ?_)
            rintro e w56 ⟨rfl, hb⟩
            replace hs := bStep hs hb
            replace Blinside := Blinside.mono hb
            replace Blpart := Blpart.mono hb
            replace h9 := h9.mono hb
            replace he15a := he15a.mono hb
            replace he18a := he18a.mono hb
            replace h19 := h19.mono hb
            replace h20 := h20.mono hb
            replace h21 := h21.mono hb
            replace h22 := h22.mono hb
            replace h23 := h23.mono hb
            replace h24 := h24.mono hb
            replace h25 := h25.mono hb
            replace he33a := he33a.mono hb
            replace he35a := he35a.mono hb
            replace he35b := he35b.mono hb
            replace hC := rowsJ (C3.kept PC.kept) _ _ _ hC hb
            replace A5 := rowsJ PC.kept _ _ _ A5 hb
            replace B_7 := rowsJ PC.kept _ _ _ B_7 hb
            replace T_8 := rowsJ PC.kept _ _ _ T_8 hb
            replace X_30 := rowsJ (C2.kept PC.kept) _ _ _ X_30 hb
            replace Ee330 := cellK Ee330 hb
            replace Ee331 := cellK Ee331 hb
            replace Ee332 := cellK Ee332 hb
            replace Ee350 := cellK Ee350 hb
            replace Ee351 := cellK Ee351 hb
            replace Ee352 := cellK Ee352 hb
            replace Ee353 := cellK Ee353 hb
            replace Ee354 := cellK Ee354 hb
            replace Ee355 := cellK Ee355 hb
            clear hb
            rw [← Hb36.out]
            try go_wp2_with fail
            refine hK.out _ _ ⟨Ee330, Ee331, Ee332, Ee350, Ee351, Ee352, Ee353, Ee354, Ee355⟩ (fun hH => ?_)
            clear hK K
            try simp only [LY]
            refine U_tk 19 148 ?_ ?_ hH ?_
            rotate_left
            · (intro w hSw; (try dsimp only at hSw); go_simp; try with_reducible rfl)
            simp only [LY]
            try simp only [Bool.not_true, Bool.not_false, q3d, q4d, q6d, q10b, q10n, q11b, q11n, q13d, q29d, q31b, q31n, SW16a]
            refine U_tk 20 149 ?_ ?_ hH ?_
            rotate_left
            · (intro w hSw; (try dsimp only at hSw); go_simp; try with_reducible rfl)
            simp only [LY]
            clear hH
            refine U_endN (by kernel_rfl) ?_
            clear Ee330 Ee331 Ee332 Ee350 Ee351 Ee352 Ee353 Ee354 Ee355
            have q37 : nthQ B 0 = vaQ X 0 := HE0.out
            obtain rfl : b36 = true := by rw [Hb36.out]; exact decide_eq_true q37
            have q37H := Lib.hid q37
            clear q37
            go_wp2
            clear le33 le35
            simp only [Bool.not_true]
            go_wp2
            have HB0_38 := Lib.hid hs
            clear hs
            have hs := Below.refl w56.heap.size w56
            have nb_inside : w23.heap.size < w56.heap.size := Blinside.lt
            have nb_part : gpart < w56.heap.size := Blpart.lt
            have FhC := Lib.hid hC
            clear hC
            have FA5 := Lib.hid A5
            clear A5
            have FB_7 := Lib.hid B_7
            clear B_7
            have FT_8 := Lib.hid T_8
            clear T_8
            have FX_30 := Lib.hid X_30
            clear X_30
            go_loopw [152] (fun s152 wq => ∃ i : Nat, i ≤ B.length ∧ s152 = .int .i64 i ∧ Below w56.heap.size w56 wq ∧ Bx wq (w23.heap.size) 32 #[.bool sh9, .slice ah9 nh9 ch9, .slice Ah9 Nh9 Ch9] ∧ Bx wq (gpart) 32 #[.bool sh19, .slice ah19 nh19 ch19, .slice Ah19 Nh19 Ch19] ∧ PV wq (.agg #[.bool sh9, .slice ah9 nh9 ch9, .slice Ah9 Nh9 Ch9]) (I) ∧ PV wq (.agg #[.bool ge15a, .slice ae15a ne15a ce15a, .slice Ae15a Ne15a De15a]) (nthQ L 0) ∧ PV wq (.agg #[.bool ge18a, .slice ae18a ne18a ce18a, .slice Ae18a Ne18a De18a]) (nthQ L (L.length - 1)) ∧ PV wq (.agg #[.bool sh19, .slice ah19 nh19 ch19, .slice Ah19 Nh19 Ch19]) (nthQ L 0 / (nthQ L (L.length - 1))) ∧ PV wq (.agg #[.bool sh20, .slice ah20 nh20 ch20, .slice Ah20 Nh20 Ch20]) (sqQ B B.length) ∧ PV wq (.agg #[.bool sh21, .slice ah21 nh21 ch21, .slice Ah21 Nh21 Ch21]) (sqQ T T.length) ∧ PV wq (.agg #[.bool sh22, .slice ah22 nh22 ch22, .slice Ah22 Nh22 Ch22]) (sqQ T T.length * (nthQ L 0 / (nthQ L (L.length - 1)))) ∧ PV wq (.agg #[.bool sh23, .slice ah23 nh23 ch23, .slice Ah23 Nh23 Ch23]) (sqQ B B.length + (sqQ T T.length * (nthQ L 0 / (nthQ L (L.length - 1))))) ∧ PV wq (.agg #[.bool sh24, .slice ah24 nh24 ch24, .slice Ah24 Nh24 Ch24]) ((sqQ B B.length + (sqQ T T.length * (nthQ L 0 / (nthQ L (L.length - 1))))) + I) ∧ PV wq (.agg #[.bool sh25, .slice ah25 nh25 ch25, .slice Ah25 Nh25 Ch25]) (1) ∧ PV wq (.agg #[.bool ge33a, .slice ae33a ne33a ce33a, .slice Ae33a Ne33a De33a]) (nthQ B 0) ∧ PV wq (.agg #[.bool ge35a, .slice ae35a ne35a ce35a, .slice Ae35a Ne35a De35a]) (taQ X 0) ∧ PV wq (.agg #[.bool ge35b, .slice ae35b ne35b ce35b, .slice Ae35b Ne35b De35b]) (vaQ X 0)) (fun s152 _ => B.length - (intOf s152).toNat)
            case atStart => exact ⟨0, Nat.zero_le _, rfl, hs, Blinside, Blpart, h9, he15a, he18a, h19, h20, h21, h22, h23, h24, h25, he33a, he35a, he35b⟩
            case round => as_aux_lemma =>
              clear Blinside Blpart h9 he15a he18a h19 h20 h21 h22 h23 h24 h25 he33a he35a he35b hs
              obtain ⟨i, k_le, rfl, hs, Blinside, Blpart, h9, he15a, he18a, h19, h20, h21, h22, h23, h24, h25, he33a, he35a, he35b⟩ := hrel
              have q0b : ((i : Int)).tmod 2 = (i : Int) % 2 := Int.tmod_eq_emod_of_nonneg (by omega)
              by_cases q39 : i < B.length
              · have q39d : ((i : Int) < (B.length : Int)) = True := eq_true (by omega)
                go_upto_region 29 with fail
                by_cases q40 : (i : Int) % 2 = 1
                · have q40b : ((i : Int) % 2 == 1) = true := beq_iff_eq.2 (by omega)
                  have q40n : ((i : Int) % 2 != 1) = false := bne_eq_false_iff_eq.2 (by omega)
                  have q40H := Lib.hid q40
                  clear q40
                  have BI41a : i < B.length := by omega
                  have BI41b : ((i : Int) : Int) < (B.length : Int) := by omega
                  obtain ⟨ge42a, ae42a, ne42a, ce42a, Ae42a, Ne42a, De42a, Ee420, Ee421, Ee422, he42a, le42⟩ := rowP_at (rowsJ PC.kept _ _ _ FB_7.out hs) (show i < B.length by omega)
                  obtain ⟨b43, Hb43⟩ : ∃ b : Bool, b = decide (nthQ B i = 0) := ⟨_, rfl⟩
                  replace Hb43 := Lib.hid Hb43
                  have q44 : nthQ B i = 0 := (HEO.out i (by omega) (by have h := q40H.out; omega))
                  obtain rfl : b43 = true := by rw [Hb43.out]; exact decide_eq_true q44
                  have q44H := Lib.hid q44
                  clear q44
                  have q45 : ¬ (i = 2) := (by have h := q40H.out; omega)
                  have q45b : ((i : Int) == 2) = false := beq_eq_false_iff_ne.2 (by omega)
                  have q45n : ((i : Int) != 2) = true := bne_iff_ne.2 (by omega)
                  have q45H := Lib.hid q45
                  clear q45
                  refine U_region (S := fun w' => w'.cell? ⟨bB_7, oB_7 + i * 3, none⟩ = some (.bool ge42a) ∧ w'.cell? ⟨bB_7, oB_7 + i * 3 + 1, none⟩ = some (.slice ae42a ne42a ce42a) ∧ w'.cell? ⟨bB_7, oB_7 + i * 3 + 2, none⟩ = some (.slice Ae42a Ne42a De42a)) (by kernel_rfl) 31 ?_
                  refine AnyU.abs ?_
                  intro w77 hW
                  have hb : Below wr.heap.size wr w77 := by rw [hW]; exact bDrew _
                  replace hs := bStep hs hb
                  replace Blinside := Blinside.mono hb
                  replace Blpart := Blpart.mono hb
                  replace h9 := h9.mono hb
                  replace he15a := he15a.mono hb
                  replace he18a := he18a.mono hb
                  replace h19 := h19.mono hb
                  replace h20 := h20.mono hb
                  replace h21 := h21.mono hb
                  replace h22 := h22.mono hb
                  replace h23 := h23.mono hb
                  replace h24 := h24.mono hb
                  replace h25 := h25.mono hb
                  replace he33a := he33a.mono hb
                  replace he35a := he35a.mono hb
                  replace he35b := he35b.mono hb
                  replace he42a := he42a.mono hb
                  replace Ee420 := cellK Ee420 hb
                  replace Ee421 := cellK Ee421 hb
                  replace Ee422 := cellK Ee422 hb
                  clear hb hW
                  have hH := (show w77.cell? ⟨bB_7, oB_7 + i * 3, none⟩ = some (.bool ge42a) ∧ w77.cell? ⟨bB_7, oB_7 + i * 3 + 1, none⟩ = some (.slice ae42a ne42a ce42a) ∧ w77.cell? ⟨bB_7, oB_7 + i * 3 + 2, none⟩ = some (.slice Ae42a Ne42a De42a) from ⟨Ee420, Ee421, Ee422⟩)
                  refine U_tk 0 155 ?_ ?_ hH ?_
                  rotate_left
                  · (intro w hSw; (try dsimp only at hSw); go_simp; try with_reducible rfl)
                  simp only [LY]
                  refine U_tk 1 156 ?_ ?_ hH ?_
                  rotate_left
                  · (intro w hSw; (try dsimp only at hSw); go_simp; try with_reducible rfl)
                  simp only [LY]
                  try simp only [Bool.not_true, Bool.not_false, q3d, q4d, q6d, q10b, q10n, q11b, q11n, q13d, q29d, q31b, q31n, q0b, q39d, q40b, q40n, q45b, q45n, SW16a]
                  refine U_tk 2 157 ?_ ?_ hH ?_
                  rotate_left
                  · (intro w hSw; (try dsimp only at hSw); go_simp; try with_reducible rfl)
                  simp only [LY]
                  try simp only [Bool.not_true, Bool.not_false, q3d, q4d, q6d, q10b, q10n, q11b, q11n, q13d, q29d, q31b, q31n, q0b, q39d, q40b, q40n, q45b, q45n, SW16a]
                  refine U_tk 3 158 ?_ ?_ hH ?_
                  rotate_left
                  · (intro w hSw; (try dsimp only at hSw); go_simp; try with_reducible rfl)
                  simp only [LY]
                  refine U_tk 4 159 ?_ ?_ hH ?_
                  rotate_left
                  · (intro w hSw; (try dsimp only at hSw); go_simp; try with_reducible rfl)
                  simp only [LY]
                  refine U_tk 5 160 ?_ ?_ hH ?_
                  rotate_left
                  · (intro w hSw; (try dsimp only at hSw); go_simp; try with_reducible rfl)
                  simp only [LY]
                  refine U_tk 6 161 ?_ ?_ hH ?_
                  rotate_left
                  · (intro w hSw; (try dsimp only at hSw); go_simp; try with_reducible rfl)
                  simp only [LY]
                  refine U_tk 7 162 ?_ ?_ hH ?_
                  rotate_left
                  · (intro w hSw; (try dsimp only at hSw); go_simp; try with_reducible rfl)
                  simp only [LY]
                  clear hH
                  refine U_one (i := 8) (by kernel_rfl) rfl (fun K hK => ?_)
                  go_simp
                  (with_reducible refine (p_Zero_calls _ _ _ he42a).mono ?_)
                  rintro e w78 ⟨rfl, hb⟩
                  replace hs := bStep hs hb
                  replace Blinside := Blinside.mono hb
                  replace Blpart := Blpart.mono hb
                  replace h9 := h9.mono hb
                  replace he15a := he15a.mono hb
                  replace he18a := he18a.mono hb
                  replace h19 := h19.mono hb
                  replace h20 := h20.mono hb
                  replace h21 := h21.mono hb
                  replace h22 := h22.mono hb
                  replace h23 := h23.mono hb
                  replace h24 := h24.mono hb
                  replace h25 := h25.mono hb
                  replace he33a := he33a.mono hb
                  replace he35a := he35a.mono hb
                  replace he35b := he35b.mono hb
                  replace he42a := he42a.mono hb
                  replace Ee420 := cellK Ee420 hb
                  replace Ee421 := cellK Ee421 hb
                  replace Ee422 := cellK Ee422 hb
                  clear hb
                  rw [← Hb43.out]
                  try go_wp2_with fail
                  refine hK.out _ _ ⟨Ee420, Ee421, Ee422⟩ (fun hH => ?_)
                  clear hK K
                  try simp only [LY]
                  refine U_tk 9 164 ?_ ?_ hH ?_
                  rotate_left
                  · (intro w hSw; (try dsimp only at hSw); go_simp; try with_reducible rfl)
                  simp only [LY]
                  try simp only [Bool.not_true, Bool.not_false, q3d, q4d, q6d, q10b, q10n, q11b, q11n, q13d, q29d, q31b, q31n, q0b, q39d, q40b, q40n, q45b, q45n, SW16a]
                  refine U_tk 10 165 ?_ ?_ hH ?_
                  rotate_left
                  · (intro w hSw; (try dsimp only at hSw); go_simp; try with_reducible rfl)
                  simp only [LY]
                  refine U_tk 11 166 ?_ ?_ hH ?_
                  rotate_left
                  · (intro w hSw; (try dsimp only at hSw); go_simp; try with_reducible rfl)
                  simp only [LY]
                  refine U_tk 12 167 ?_ ?_ hH ?_
                  rotate_left
                  · (intro w hSw; (try dsimp only at hSw); go_simp; try with_reducible rfl)
                  simp only [LY]
                  refine U_tk 13 168 ?_ ?_ hH ?_
                  rotate_left
                  · (intro w hSw; (try dsimp only at hSw); go_simp; try with_reducible rfl)
                  simp only [LY]
                  try simp only [Bool.not_true, Bool.not_false, q3d, q4d, q6d, q10b, q10n, q11b, q11n, q13d, q29d, q31b, q31n, q0b, q39d, q40b, q40n, q45b, q45n, SW16a]
                  refine U_tk 14 169 ?_ ?_ hH ?_
                  rotate_left
                  · (intro w hSw; (try dsimp only at hSw); go_simp; try with_reducible rfl)
                  simp only [LY]
                  refine U_tu 15 170 hH ?_
                  simp only [LY]
                  refine U_tu 16 171 hH ?_
                  simp only [LY]
                  refine U_tu 17 172 hH ?_
                  simp only [LY]
                  refine U_tk 18 173 ?_ ?_ hH ?_
                  rotate_left
                  · (intro w hSw; (try dsimp only at hSw); go_simp; try with_reducible rfl)
                  simp only [LY]
                  refine U_tk 19 174 ?_ ?_ hH ?_
                  rotate_left
                  · (intro w hSw; (try dsimp only at hSw); go_simp; try with_reducible rfl)
                  simp only [LY]
                  refine U_tu 20 175 hH ?_
                  simp only [LY]
                  refine U_tu 21 176 hH ?_
                  simp only [LY]
                  refine U_tu 22 177 hH ?_
                  simp only [LY]
                  refine U_tu 23 178 hH ?_
                  simp only [LY]
                  refine U_tu 24 179 hH ?_
                  simp only [LY]
                  refine U_tu 25 180 hH ?_
                  simp only [LY]
                  refine U_tu 26 181 hH ?_
                  simp only [LY]
                  clear hH
                  refine U_one (i := 27) (by kernel_rfl) rfl (fun K hK => ?_)
                  go_simp
                  refine hK.out _ _ ⟨Ee420, Ee421, Ee422⟩ (fun hH => ?_)
                  clear hK K
                  try simp only [LY]
                  refine U_tu 28 183 hH ?_
                  simp only [LY]
                  refine U_tk 29 184 ?_ ?_ hH ?_
                  rotate_left
                  · (intro w hSw; (try dsimp only at hSw); go_simp; try with_reducible rfl)
                  simp only [LY]
                  refine U_tk 30 185 ?_ ?_ hH ?_
                  rotate_left
                  · (intro w hSw; (try dsimp only at hSw); go_simp; try with_reducible rfl)
                  simp only [LY]
                  clear hH
                  refine U_endN (by kernel_rfl) ?_
                  clear Ee420 Ee421 Ee422
                  go_wp2
                  go_roundw
                  case rel => exact ⟨i + 1, by omega, by go_num, hs, Blinside, Blpart, h9, he15a, he18a, h19, h20, h21, h22, h23, h24, h25, he33a, he35a, he35b⟩
                  all_goals first | (simp [intOf]; done) | (simp [intOf]; omega)
                · have q40b : ((i : Int) % 2 == 1) = false := beq_eq_false_iff_ne.2 (by omega)
                  have q40n : ((i : Int) % 2 != 1) = true := bne_iff_ne.2 (by omega)
                  have q40H := Lib.hid q40
                  clear q40
                  by_cases q41 : i = 2
                  · have q41b : ((i : Int) == 2) = true := beq_iff_eq.2 (by omega)
                    have q41n : ((i : Int) != 2) = false := bne_eq_false_iff_eq.2 (by omega)
                    have q41H := Lib.hid q41
                    clear q41
                    have lb2 : 2 < B.length := by have h := q41H.out; omega
                    by_cases q42 : 1 < X.length
                    · have q42d : ((1 : Int) < (X.length : Int)) = True := eq_true (by omega)
                      have BI43a : 2 < B.length := by omega
                      have BI43b : (2 : Int) < (B.length : Int) := by omega
                      obtain ⟨ge44a, ae44a, ne44a, ce44a, Ae44a, Ne44a, De44a, Ee440, Ee441, Ee442, he44a, le44⟩ := rowP_at (rowsJ PC.kept _ _ _ FB_7.out hs) (show 2 < B.length by omega)
                      have BI45a : 1 < X.length := by omega
                      have BI45b : (1 : Int) < (X.length : Int) := by omega
                      obtain ⟨ge46a, ae46a, ne46a, ce46a, Ae46a, Ne46a, De46a, ge46b, ae46b, ne46b, ce46b, Ae46b, Ne46b, De46b, Ee460, Ee461, Ee462, Ee463, Ee464, Ee465, he46a, he46b, le46⟩ := rowSP_at (rowsJ (C2.kept PC.kept) _ _ _ FX_30.out hs) (show 1 < X.length by omega)
                      obtain ⟨b47, Hb47⟩ : ∃ b : Bool, b = decide (nthQ B 2 = vaQ X 1) := ⟨_, rfl⟩
                      replace Hb47 := Lib.hid Hb47
                      refine U_region (S := fun w' => w'.cell? ⟨bB_7, oB_7 + 2 * 3, none⟩ = some (.bool ge44a) ∧ w'.cell? ⟨bB_7, oB_7 + 2 * 3 + 1, none⟩ = some (.slice ae44a ne44a ce44a) ∧ w'.cell? ⟨bB_7, oB_7 + 2 * 3 + 2, none⟩ = some (.slice Ae44a Ne44a De44a) ∧ w'.cell? ⟨bX_30, oX_30 + 1 * 6, none⟩ = some (.bool ge46a) ∧ w'.cell? ⟨bX_30, oX_30 + 1 * 6 + 1, none⟩ = some (.slice ae46a ne46a ce46a) ∧ w'.cell? ⟨bX_30, oX_30 + 1 * 6 + 2, none⟩ = some (.slice Ae46a Ne46a De46a) ∧ w'.cell? ⟨bX_30, oX_30 + 1 * 6 + 3, none⟩ = some (.bool ge46b) ∧ w'.cell? ⟨bX_30, oX_30 + 1 * 6 + 4, none⟩ = some (.slice ae46b ne46b ce46b) ∧ w'.cell? ⟨bX_30, oX_30 + 1 * 6 + 5, none⟩ = some (.slice Ae46b Ne46b De46b)) (by kernel_rfl) 31 ?_
                      refine AnyU.abs ?_
                      intro w77 hW
                      have hb : Below wr.heap.size wr w77 := by rw [hW]; exact bDrew _
                      replace hs := bStep hs hb
                      replace Blinside := Blinside.mono hb
                      replace Blpart := Blpart.mono hb
                      replace h9 := h9.mono hb
                      replace he15a := he15a.mono hb
                      replace he18a := he18a.mono hb
                      replace h19 := h19.mono hb
                      replace h20 := h20.mono hb
                      replace h21 := h21.mono hb
                      replace h22 := h22.mono hb
                      replace h23 := h23.mono hb
                      replace h24 := h24.mono hb
                      replace h25 := h25.mono hb
                      replace he33a := he33a.mono hb
                      replace he35a := he35a.mono hb
                      replace he35b := he35b.mono hb
                      replace he44a := he44a.mono hb
                      replace he46a := he46a.mono hb
                      replace he46b := he46b.mono hb
                      replace Ee440 := cellK Ee440 hb
                      replace Ee441 := cellK Ee441 hb
                      replace Ee442 := cellK Ee442 hb
                      replace Ee460 := cellK Ee460 hb
                      replace Ee461 := cellK Ee461 hb
                      replace Ee462 := cellK Ee462 hb
                      replace Ee463 := cellK Ee463 hb
                      replace Ee464 := cellK Ee464 hb
                      replace Ee465 := cellK Ee465 hb
                      clear hb hW
                      have hH := (show w77.cell? ⟨bB_7, oB_7 + 2 * 3, none⟩ = some (.bool ge44a) ∧ w77.cell? ⟨bB_7, oB_7 + 2 * 3 + 1, none⟩ = some (.slice ae44a ne44a ce44a) ∧ w77.cell? ⟨bB_7, oB_7 + 2 * 3 + 2, none⟩ = some (.slice Ae44a Ne44a De44a) ∧ w77.cell? ⟨bX_30, oX_30 + 1 * 6, none⟩ = some (.bool ge46a) ∧ w77.cell? ⟨bX_30, oX_30 + 1 * 6 + 1, none⟩ = some (.slice ae46a ne46a ce46a) ∧ w77.cell? ⟨bX_30, oX_30 + 1 * 6 + 2, none⟩ = some (.slice Ae46a Ne46a De46a) ∧ w77.cell? ⟨bX_30, oX_30 + 1 * 6 + 3, none⟩ = some (.bool ge46b) ∧ w77.cell? ⟨bX_30, oX_30 + 1 * 6 + 4, none⟩ = some (.slice ae46b ne46b ce46b) ∧ w77.cell? ⟨bX_30, oX_30 + 1 * 6 + 5, none⟩ = some (.slice Ae46b Ne46b De46b) from ⟨Ee440, Ee441, Ee442, Ee460, Ee461, Ee462, Ee463, Ee464, Ee465⟩)
                      refine U_tk 0 155 ?_ ?_ hH ?_
                      rotate_left
                      · (intro w hSw; (try dsimp only at hSw); go_simp; try with_reducible rfl)
                      simp only [LY]
                      refine U_tk 1 156 ?_ ?_ hH ?_
                      rotate_left
                      · (intro w hSw; (try dsimp only at hSw); go_simp; try with_reducible rfl)
                      simp only [LY]
                      try simp only [Bool.not_true, Bool.not_false, q3d, q4d, q6d, q10b, q10n, q11b, q11n, q13d, q29d, q31b, q31n, q0b, q39d, q40b, q40n, q41b, q41n, q42d, SW16a]
                      refine U_tk 2 157 ?_ ?_ hH ?_
                      rotate_left
                      · (intro w hSw; (try dsimp only at hSw); go_simp; try with_reducible rfl)
                      simp only [LY]
                      try simp only [Bool.not_true, Bool.not_false, q3d, q4d, q6d, q10b, q10n, q11b, q11n, q13d, q29d, q31b, q31n, q0b, q39d, q40b, q40n, q41b, q41n, q42d, SW16a]
                      refine U_tk 3 158 ?_ ?_ hH ?_
                      rotate_left
                      · (intro w hSw; (try dsimp only at hSw); go_simp; try with_reducible rfl)
                      simp only [LY]
                      refine U_tu 4 159 hH ?_
                      simp only [LY]
                      refine U_tu 5 160 hH ?_
                      simp only [LY]
                      refine U_tu 6 161 hH ?_
                      simp only [LY]
                      refine U_tu 7 162 hH ?_
                      simp only [LY]
                      clear hH
                      refine U_one (i := 8) (by kernel_rfl) rfl (fun K hK => ?_)
                      go_simp
                      refine hK.out _ _ ⟨Ee440, Ee441, Ee442, Ee460, Ee461, Ee462, Ee463, Ee464, Ee465⟩ (fun hH => ?_)
                      clear hK K
                      try simp only [LY]
                      refine U_tu 9 164 hH ?_
                      simp only [LY]
                      refine U_tk 10 165 ?_ ?_ hH ?_
                      rotate_left
                      · (intro w hSw; (try dsimp only at hSw); go_simp; try with_reducible rfl)
                      simp only [LY]
                      refine U_tk 11 166 ?_ ?_ hH ?_
                      rotate_left
                      · (intro w hSw; (try dsimp only at hSw); go_simp; try with_reducible rfl)
                      simp only [LY]
                      refine U_tk 12 167 ?_ ?_ hH ?_
                      rotate_left
                      · (intro w hSw; (try dsimp only at hSw); go_simp; try with_reducible rfl)
                      simp only [LY]
                      refine U_tk 13 168 ?_ ?_ hH ?_
                      rotate_left
                      · (intro w hSw; (try dsimp only at hSw); go_simp; try with_reducible rfl)
                      simp only [LY]
                      try simp only [Bool.not_true, Bool.not_false, q3d, q4d, q6d, q10b, q10n, q11b, q11n, q13d, q29d, q31b, q31n, q0b, q39d, q40b, q40n, q41b, q41n, q42d, SW16a]
                      refine U_tk 14 169 ?_ ?_ hH ?_
                      rotate_left
                      · (intro w hSw; (try dsimp only at hSw); go_simp; try with_reducible rfl)
                      simp only [LY]
                      refine U_tk 15 170 ?_ ?_ hH ?_
                      rotate_left
                      · (intro w hSw; (try dsimp only at hSw); go_simp; try with_reducible rfl)
                      simp only [LY]
                      refine U_tk 16 171 ?_ ?_ hH ?_
                      rotate_left
                      · (intro w hSw; (try dsimp only at hSw); go_simp; try with_reducible rfl)
                      simp only [LY]
                      refine U_tk 17 172 ?_ ?_ hH ?_
                      rotate_left
                      · (intro w hSw; (try dsimp only at hSw); go_simp; try with_reducible rfl)
                      simp only [LY]
                      try simp only [Bool.not_true, Bool.not_false, q3d, q4d, q6d, q10b, q10n, q11b, q11n, q13d, q29d, q31b, q31n, q0b, q39d, q40b, q40n, q41b, q41n, q42d, SW16a]
                      refine U_tk 18 173 ?_ ?_ hH ?_
                      rotate_left
                      · (intro w hSw; (try dsimp only at hSw); go_simp; try with_reducible rfl)
                      simp only [LY]
                      refine U_tk 19 174 ?_ ?_ hH ?_
                      rotate_left
                      · (intro w hSw; (try dsimp only at hSw); go_simp; try with_reducible rfl)
                      simp only [LY]
                      refine U_tk 20 175 ?_ ?_ hH ?_
                      rotate_left
                      · (intro w hSw; (try dsimp only at hSw); go_simp; try with_reducible rfl)
                      simp only [LY]
                      refine U_tk 21 176 ?_ ?_ hH ?_
                      rotate_left
                      · (intro w hSw; (try dsimp only at hSw); go_simp; try with_reducible rfl)
                      simp only [LY]
                      refine U_tk 22 177 ?_ ?_ hH ?_
                      rotate_left
                      · (intro w hSw; (try dsimp only at hSw); go_simp; try with_reducible rfl)
                      simp only [LY]
                      refine U_tk 23 178 ?_ ?_ hH ?_
                      rotate_left
                      · (intro w hSw; (try dsimp only at hSw); go_simp; try with_reducible rfl)
                      simp only [LY]
                      refine U_tk 24 179 ?_ ?_ hH ?_
                      rotate_left
                      · (intro w hSw; (try dsimp only at hSw); go_simp; try with_reducible rfl)
                      simp only [LY]
                      refine U_tk 25 180 ?_ ?_ hH ?_
                      rotate_left
                      · (intro w hSw; (try dsimp only at hSw); go_simp; try with_reducible rfl)
                      simp only [LY]
                      refine U_tk 26 181 ?_ ?_ hH ?_
                      rotate_left
                      · (intro w hSw; (try dsimp only at hSw); go_simp; try with_reducible rfl)
                      simp only [LY]
                      clear hH
                      refine U_one (i := 27) (by kernel_rfl) rfl (fun K hK => ?_)
                      go_simp
                      (with_reducible refine (p_Same_calls _ _ _ _ _ he44a he46b).mono ?_)
                      rintro e w78 ⟨rfl, hb⟩
                      replace hs := bStep hs hb
                      replace Blinside := Blinside.mono hb
                      replace Blpart := Blpart.mono hb
                      replace h9 := h9.mono hb
                      replace he15a := he15a.mono hb
                      replace he18a := he18a.mono hb
                      replace h19 := h19.mono hb
                      replace h20 := h20.mono hb
                      replace h21 := h21.mono hb
                      replace h22 := h22.mono hb
                      replace h23 := h23.mono hb
                      replace h24 := h24.mono hb
                      replace h25 := h25.mono hb
                      replace he33a := he33a.mono hb
                      replace he35a := he35a.mono hb
                      replace he35b := he35b.mono hb
                      replace he44a := he44a.mono hb
                      replace he46a := he46a.mono hb
                      replace he46b := he46b.mono hb
                      replace Ee440 := cellK Ee440 hb
                      replace Ee441 := cellK Ee441 hb
                      replace Ee442 := cellK Ee442 hb
                      replace Ee460 := cellK Ee460 hb
                      replace Ee461 := cellK Ee461 hb
                      replace Ee462 := cellK Ee462 hb
                      replace Ee463 := cellK Ee463 hb
                      replace Ee464 := cellK Ee464 hb
                      replace Ee465 := cellK Ee465 hb
                      clear hb
                      rw [← Hb47.out]
                      try go_wp2_with fail
                      refine hK.out _ _ ⟨Ee440, Ee441, Ee442, Ee460, Ee461, Ee462, Ee463, Ee464, Ee465⟩ (fun hH => ?_)
                      clear hK K
                      try simp only [LY]
                      refine U_tk 28 183 ?_ ?_ hH ?_
                      rotate_left
                      · (intro w hSw; (try dsimp only at hSw); go_simp; try with_reducible rfl)
                      simp only [LY]
                      try simp only [Bool.not_true, Bool.not_false, q3d, q4d, q6d, q10b, q10n, q11b, q11n, q13d, q29d, q31b, q31n, q0b, q39d, q40b, q40n, q41b, q41n, q42d, SW16a]
                      refine U_tk 29 184 ?_ ?_ hH ?_
                      rotate_left
                      · (intro w hSw; (try dsimp only at hSw); go_simp; try with_reducible rfl)
                      simp only [LY]
                      refine U_tk 30 185 ?_ ?_ hH ?_
                      rotate_left
                      · (intro w hSw; (try dsimp only at hSw); go_simp; try with_reducible rfl)
                      simp only [LY]
                      clear hH
                      refine U_endN (by kernel_rfl) ?_
                      clear Ee440 Ee441 Ee442 Ee460 Ee461 Ee462 Ee463 Ee464 Ee465
                      have q48 : nthQ B 2 = vaQ X 1 := (HE2.out lb2 (by omega))
                      obtain rfl : b47 = true := by rw [Hb47.out]; exact decide_eq_true q48
                      have q48H := Lib.hid q48
                      clear q48
                      go_wp2
                      go_roundw
                      case rel => exact ⟨i + 1, by omega, by go_num, hs, Blinside, Blpart, h9, he15a, he18a, h19, h20, h21, h22, h23, h24, h25, he33a, he35a, he35b⟩
                      all_goals first | (simp [intOf]; done) | (simp [intOf]; omega)
                    · have q42d : ((1 : Int) < (X.length : Int)) = False := eq_false (by omega)
                      refine U_region (S := fun w' => True) (by kernel_rfl) 31 ?_
                      refine AnyU.abs ?_
                      intro w77 hW
                      have hb : Below wr.heap.size wr w77 := by rw [hW]; exact bDrew _
                      replace hs := bStep hs hb
                      replace Blinside := Blinside.mono hb
                      replace Blpart := Blpart.mono hb
                      replace h9 := h9.mono hb
                      replace he15a := he15a.mono hb
                      replace he18a := he18a.mono hb
                      replace h19 := h19.mono hb
                      replace h20 := h20.mono hb
                      replace h21 := h21.mono hb
                      replace h22 := h22.mono hb
                      replace h23 := h23.mono hb
                      replace h24 := h24.mono hb
                      replace h25 := h25.mono hb
                      replace he33a := he33a.mono hb
                      replace he35a := he35a.mono hb
                      replace he35b := he35b.mono hb
                      clear hb hW
                      have hH := (show True from True.intro)
                      refine U_tk 0 155 ?_ ?_ hH ?_
                      rotate_left
                      · (intro w hSw; (try dsimp only at hSw); go_simp; try with_reducible rfl)
                      simp only [LY]
                      refine U_tk 1 156 ?_ ?_ hH ?_
                      rotate_left
                      · (intro w hSw; (try dsimp only at hSw); go_simp; try with_reducible rfl)
                      simp only [LY]
                      try simp only [Bool.not_true, Bool.not_false, q3d, q4d, q6d, q10b, q10n, q11b, q11n, q13d, q29d, q31b, q31n, q0b, q39d, q40b, q40n, q41b, q41n, q42d, SW16a]
                      refine U_tk 2 157 ?_ ?_ hH ?_
                      rotate_left
                      · (intro w hSw; (try dsimp only at hSw); go_simp; try with_reducible rfl)
                      simp only [LY]
                      try simp only [Bool.not_true, Bool.not_false, q3d, q4d, q6d, q10b, q10n, q11b, q11n, q13d, q29d, q31b, q31n, q0b, q39d, q40b, q40n, q41b, q41n, q42d, SW16a]
                      refine U_tk 3 158 ?_ ?_ hH ?_
                      rotate_left
                      · (intro w hSw; (try dsimp only at hSw); go_simp; try with_reducible rfl)
                      simp only [LY]
                      refine U_tu 4 159 hH ?_
                      simp only [LY]
                      refine U_tu 5 160 hH ?_
                      simp only [LY]
                      refine U_tu 6 161 hH ?_
                      simp only [LY]
                      refine U_tu 7 162 hH ?_
                      simp only [LY]
                      clear hH
                      refine U_one (i := 8) (by kernel_rfl) rfl (fun K hK => ?_)
                      go_simp
                      refine hK.out _ _ True.intro (fun hH => ?_)
                      clear hK K
                      try simp only [LY]
                      refine U_tu 9 164 hH ?_
                      simp only [LY]
                      refine U_tk 10 165 ?_ ?_ hH ?_
                      rotate_left
                      · (intro w hSw; (try dsimp only at hSw); go_simp; try with_reducible rfl)
                      simp only [LY]
                      refine U_tk 11 166 ?_ ?_ hH ?_
                      rotate_left
                      · (intro w hSw; (try dsimp only at hSw); go_simp; try with_reducible rfl)
                      simp only [LY]
                      refine U_tk 12 167 ?_ ?_ hH ?_
                      rotate_left
                      · (intro w hSw; (try dsimp only at hSw); go_simp; try with_reducible rfl)
                      simp only [LY]
                      refine U_tk 13 168 ?_ ?_ hH ?_
                      rotate_left
                      · (intro w hSw; (try dsimp only at hSw); go_simp; try with_reducible rfl)
                      simp only [LY]
                      try simp only [Bool.not_true, Bool.not_false, q3d, q4d, q6d, q10b, q10n, q11b, q11n, q13d, q29d, q31b, q31n, q0b, q39d, q40b, q40n, q41b, q41n, q42d, SW16a]
                      refine U_tk 14 169 ?_ ?_ hH ?_
                      rotate_left
                      · (intro w hSw; (try dsimp only at hSw); go_simp; try with_reducible rfl)
                      simp only [LY]
                      refine U_tk 15 170 ?_ ?_ hH ?_
                      rotate_left
                      · (intro w hSw; (try dsimp only at hSw); go_simp; try with_reducible rfl)
                      simp only [LY]
                      refine U_tk 16 171 ?_ ?_ hH ?_
                      rotate_left
                      · (intro w hSw; (try dsimp only at hSw); go_simp; try with_reducible rfl)
                      simp only [LY]
                      refine U_tk 17 172 ?_ ?_ hH ?_
                      rotate_left
                      · (intro w hSw; (try dsimp only at hSw); go_simp; try with_reducible rfl)
                      simp only [LY]
                      try simp only [Bool.not_true, Bool.not_false, q3d, q4d, q6d, q10b, q10n, q11b, q11n, q13d, q29d, q31b, q31n, q0b, q39d, q40b, q40n, q41b, q41n, q42d, SW16a]
                      refine U_tk 18 173 ?_ ?_ hH ?_
                      rotate_left
                      · (intro w hSw; (try dsimp only at hSw); go_simp; try with_reducible rfl)
                      simp only [LY]
                      refine U_tk 19 174 ?_ ?_ hH ?_
                      rotate_left
                      · (intro w hSw; (try dsimp only at hSw); go_simp; try with_reducible rfl)
                      simp only [LY]
                      refine U_tu 20 175 hH ?_
                      simp only [LY]
                      refine U_tu 21 176 hH ?_
                      simp only [LY]
                      refine U_tu 22 177 hH ?_
                      simp only [LY]
                      refine U_tu 23 178 hH ?_
                      simp only [LY]
                      refine U_tu 24 179 hH ?_
                      simp only [LY]
                      refine U_tu 25 180 hH ?_
                      simp only [LY]
                      refine U_tu 26 181 hH ?_
                      simp only [LY]
                      clear hH
                      refine U_one (i := 27) (by kernel_rfl) rfl (fun K hK => ?_)
                      go_simp
                      refine hK.out _ _ True.intro (fun hH => ?_)
                      clear hK K
                      try simp only [LY]
                      refine U_tu 28 183 hH ?_
                      simp only [LY]
                      refine U_tk 29 184 ?_ ?_ hH ?_
                      rotate_left
                      · (intro w hSw; (try dsimp only at hSw); go_simp; try with_reducible rfl)
                      simp only [LY]
                      refine U_tk 30 185 ?_ ?_ hH ?_
                      rotate_left
                      · (intro w hSw; (try dsimp only at hSw); go_simp; try with_reducible rfl)
                      simp only [LY]
                      clear hH
                      refine U_endN (by kernel_rfl) ?_
                      go_wp2
                      go_roundw
                      case rel => exact ⟨i + 1, by omega, by go_num, hs, Blinside, Blpart, h9, he15a, he18a, h19, h20, h21, h22, h23, h24, h25, he33a, he35a, he35b⟩
                      all_goals first | (simp [intOf]; done) | (simp [intOf]; omega)
                  · have q41b : ((i : Int) == 2) = false := beq_eq_false_iff_ne.2 (by omega)
                    have q41n : ((i : Int) != 2) = true := bne_iff_ne.2 (by omega)
                    have q41H := Lib.hid q41
                    clear q41
                    refine U_region (S := fun w' => True) (by kernel_rfl) 31 ?_
                    refine AnyU.abs ?_
                    intro w77 hW
                    have hb : Below wr.heap.size wr w77 := by rw [hW]; exact bDrew _
                    replace hs := bStep hs hb
                    replace Blinside := Blinside.mono hb
                    replace Blpart := Blpart.mono hb
                    replace h9 := h9.mono hb
                    replace he15a := he15a.mono hb
                    replace he18a := he18a.mono hb
                    replace h19 := h19.mono hb
                    replace h20 := h20.mono hb
                    replace h21 := h21.mono hb
                    replace h22 := h22.mono hb
                    replace h23 := h23.mono hb
                    replace h24 := h24.mono hb
                    replace h25 := h25.mono hb
                    replace he33a := he33a.mono hb
                    replace he35a := he35a.mono hb
                    replace he35b := he35b.mono hb
                    clear hb hW
                    have hH := (show True from True.intro)
                    refine U_tk 0 155 ?_ ?_ hH ?_
                    rotate_left
                    · (intro w hSw; (try dsimp only at hSw); go_simp; try with_reducible rfl)
                    simp only [LY]
                    refine U_tk 1 156 ?_ ?_ hH ?_
                    rotate_left
                    · (intro w hSw; (try dsimp only at hSw); go_simp; try with_reducible rfl)
                    simp only [LY]
                    try simp only [Bool.not_true, Bool.not_false, q3d, q4d, q6d, q10b, q10n, q11b, q11n, q13d, q29d, q31b, q31n, q0b, q39d, q40b, q40n, q41b, q41n, SW16a]
                    refine U_tk 2 157 ?_ ?_ hH ?_
                    rotate_left
                    · (intro w hSw; (try dsimp only at hSw); go_simp; try with_reducible rfl)
                    simp only [LY]
                    try simp only [Bool.not_true, Bool.not_false, q3d, q4d, q6d, q10b, q10n, q11b, q11n, q13d, q29d, q31b, q31n, q0b, q39d, q40b, q40n, q41b, q41n, SW16a]
                    refine U_tk 3 158 ?_ ?_ hH ?_
                    rotate_left
                    · (intro w hSw; (try dsimp only at hSw); go_simp; try with_reducible rfl)
                    simp only [LY]
                    refine U_tu 4 159 hH ?_
                    simp only [LY]
                    refine U_tu 5 160 hH ?_
                    simp only [LY]
                    refine U_tu 6 161 hH ?_
                    simp only [LY]
                    refine U_tu 7 162 hH ?_
                    simp only [LY]
                    clear hH
                    refine U_one (i := 8) (by kernel_rfl) rfl (fun K hK => ?_)
                    go_simp
                    refine hK.out _ _ True.intro (fun hH => ?_)
                    clear hK K
                    try simp only [LY]
                    refine U_tu 9 164 hH ?_
                    simp only [LY]
                    refine U_tk 10 165 ?_ ?_ hH ?_
                    rotate_left
                    · (intro w hSw; (try dsimp only at hSw); go_simp; try with_reducible rfl)
                    simp only [LY]
                    refine U_tk 11 166 ?_ ?_ hH ?_
                    rotate_left
                    · (intro w hSw; (try dsimp only at hSw); go_simp; try with_reducible rfl)
                    simp only [LY]
                    refine U_tk 12 167 ?_ ?_ hH ?_
                    rotate_left
                    · (intro w hSw; (try dsimp only at hSw); go_simp; try with_reducible rfl)
                    simp only [LY]
                    refine U_tk 13 168 ?_ ?_ hH ?_
                    rotate_left
                    · (intro w hSw; (try dsimp only at hSw); go_simp; try with_reducible rfl)
                    simp only [LY]
                    try simp only [Bool.not_true, Bool.not_false, q3d, q4d, q6d, q10b, q10n, q11b, q11n, q13d, q29d, q31b, q31n, q0b, q39d, q40b, q40n, q41b, q41n, SW16a]
                    refine U_tk 14 169 ?_ ?_ hH ?_
                    rotate_left
                    · (intro w hSw; (try dsimp only at hSw); go_simp; try with_reducible rfl)
                    simp only [LY]
                    refine U_tu 15 170 hH ?_
                    simp only [LY]
                    refine U_tu 16 171 hH ?_
                    simp only [LY]
                    refine U_tu 17 172 hH ?_
                    simp only [LY]
                    refine U_tk 18 173 ?_ ?_ hH ?_
                    rotate_left
                    · (intro w hSw; (try dsimp only at hSw); go_simp; try with_reducible rfl)
                    simp only [LY]
                    refine U_tk 19 174 ?_ ?_ hH ?_
                    rotate_left
                    · (intro w hSw; (try dsimp only at hSw); go_simp; try with_reducible rfl)
                    simp only [LY]
                    refine U_tu 20 175 hH ?_
                    simp only [LY]
                    refine U_tu 21 176 hH ?_
                    simp only [LY]
                    refine U_tu 22 177 hH ?_
                    simp only [LY]
                    refine U_tu 23 178 hH ?_
                    simp only [LY]
                    refine U_tu 24 179 hH ?_
                    simp only [LY]
                    refine U_tu 25 180 hH ?_
                    simp only [LY]
                    refine U_tu 26 181 hH ?_
                    simp only [LY]
                    clear hH
                    refine U_one (i := 27) (by kernel_rfl) rfl (fun K hK => ?_)
                    go_simp
                    refine hK.out _ _ True.intro (fun hH => ?_)
                    clear hK K
                    try simp only [LY]
                    refine U_tu 28 183 hH ?_
                    simp only [LY]
                    refine U_tk 29 184 ?_ ?_ hH ?_
                    rotate_left
                    · (intro w hSw; (try dsimp only at hSw); go_simp; try with_reducible rfl)
                    simp only [LY]
                    refine U_tk 30 185 ?_ ?_ hH ?_
                    rotate_left
                    · (intro w hSw; (try dsimp only at hSw); go_simp; try with_reducible rfl)
                    simp only [LY]
                    clear hH
                    refine U_endN (by kernel_rfl) ?_
                    go_wp2
                    go_roundw
                    case rel => exact ⟨i + 1, by omega, by go_num, hs, Blinside, Blpart, h9, he15a, he18a, h19, h20, h21, h22, h23, h24, h25, he33a, he35a, he35b⟩
                    all_goals first | (simp [intOf]; done) | (simp [intOf]; omega)
              · have q39d : ((i : Int) < (B.length : Int)) = False := eq_false (by omega)
                have hC := rowsJ (C3.kept PC.kept) _ _ _ FhC.out hs
                have A5 := rowsJ PC.kept _ _ _ FA5.out hs
                have B_7 := rowsJ PC.kept _ _ _ FB_7.out hs
                have T_8 := rowsJ PC.kept _ _ _ FT_8.out hs
                have X_30 := rowsJ (C2.kept PC.kept) _ _ _ FX_30.out hs
                replace hs := bStep HB0_38.out hs
                go_wp2_with fail
                with_reducible refine (HAW.out _).mono ?_
                rintro e w77 ⟨rfl, hb⟩
                replace hs := bStep hs hb
                replace Blinside := Blinside.mono hb
                replace Blpart := Blpart.mono hb
                replace h9 := h9.mono hb
                replace he15a := he15a.mono hb
                replace he18a := he18a.mono hb
                replace h19 := h19.mono hb
                replace h20 := h20.mono hb
                replace h21 := h21.mono hb
                replace h22 := h22.mono hb
                replace h23 := h23.mono hb
                replace h24 := h24.mono hb
                replace h25 := h25.mono hb
                replace he33a := he33a.mono hb
                replace he35a := he35a.mono hb
                replace he35b := he35b.mono hb
                replace hC := rowsJ (C3.kept PC.kept) _ _ _ hC hb
                replace A5 := rowsJ PC.kept _ _ _ A5 hb
                replace B_7 := rowsJ PC.kept _ _ _ B_7 hb
                replace T_8 := rowsJ PC.kept _ _ _ T_8 hb
                replace X_30 := rowsJ (C2.kept PC.kept) _ _ _ X_30 hb
                clear hb
                go_wp2
                go_ret
                exact ⟨rfl, hs⟩

set_option maxRecDepth 100000 in
set_option maxHeartbeats 4000000 in
theorem l7_ScanEnergy_dim (hAw : ∀ w : World, Calls Try.prog 5 #[] w (RetV w (.bool true))) (v : Value) (l : List (Int × Int)) (b0 : Int) (w : World) (hl : RowsI 2 FC w v l) (a0 : ¬ l.all tinyF = true) :
    Calls Try.prog 3 #[v, .int .u8 b0] w (RetV w (.bool true)) := by
  obtain ⟨ao, cap, rfl, hc1, hc2, hc3⟩ := hl.slice
  have hs := Below.refl w.heap.size w
  have HAW := Lib.hid hAw
  have HL := Lib.hid hl
  have HLT := Lib.hid a0
  clear a0
  clear hAw hl
  go_enter Try.func3, Try.ntmps3
  go_wp2_with fail
  with_reducible refine (l7_tiny _ l _ (HL.out.mono FC.kept hs)).mono ?_
  rintro e w1 ⟨rfl, hb⟩
  replace hs := bStep hs hb
  clear hb
  obtain ⟨b1, Hb1⟩ : ∃ b : Bool, b = l.all tinyF := ⟨_, rfl⟩
  rw [← Hb1]
  replace Hb1 := Lib.hid Hb1
  have q2 : ¬ (l.all tinyF = true) := HLT.out
  obtain rfl : b1 = false := by rw [Hb1.out]; simpa using q2
  have q2H := Lib.hid q2
  clear q2
  go_wp2_with fail
  with_reducible refine (HAW.out _).mono ?_
  rintro e w2 ⟨rfl, hb⟩
  replace hs := bStep hs hb
  clear hb
  go_wp2
  go_ret
  exact ⟨rfl, hs⟩

set_option maxRecDepth 100000 in
set_option maxHeartbeats 4000000 in
theorem l7_ScanEnergy_long (hAw : ∀ w : World, Calls Try.prog 5 #[] w (RetV w (.bool true))) (v : Value) (l : List (Int × Int)) (b0 : Int) (w : World) (hl : RowsI 2 FC w v l) (a0 : l.all tinyF = true) (h5 : 5 < l.length) :
    Calls Try.prog 3 #[v, .int .u8 b0] w (RetV w (.bool true)) := by
  obtain ⟨ao, cap, rfl, hc1, hc2, hc3⟩ := hl.slice
  have hs := Below.refl w.heap.size w
  have HAW := Lib.hid hAw
  have HL := Lib.hid hl
  have HLT := Lib.hid a0
  clear a0
  clear hAw hl
  go_enter Try.func3, Try.ntmps3
  go_wp2_with fail
  with_reducible refine (l7_tiny _ l _ (HL.out.mono FC.kept hs)).mono ?_
  rintro e w1 ⟨rfl, hb⟩
  replace hs := bStep hs hb
  clear hb
  obtain ⟨b1, Hb1⟩ : ∃ b : Bool, b = l.all tinyF := ⟨_, rfl⟩
  rw [← Hb1]
  replace Hb1 := Lib.hid Hb1
  have q2 : l.all tinyF = true := HLT.out
  obtain rfl : b1 = true := by rw [Hb1.out]; exact q2
  have q2H := Lib.hid q2
  clear q2
  have q3 : 5 < l.length := (by omega)
  have q3d : ((5 : Int) < (l.length : Int)) = True := eq_true (by omega)
  go_wp2_with fail
  with_reducible refine (HAW.out _).mono ?_
  rintro e w2 ⟨rfl, hb⟩
  replace hs := bStep hs hb
  clear hb
  go_wp2
  go_ret
  exact ⟨rfl, hs⟩

set_option maxRecDepth 100000 in
set_option maxHeartbeats 4000000 in
theorem l7_ScanEnergy_few (hAw : ∀ w : World, Calls Try.prog 5 #[] w (RetV w (.bool true))) (v : Value) (l : List (Int × Int)) (b0 : Int) (w : World) (hl : RowsI 2 FC w v l) (a0 : l.all tinyF = true) (h2 : l.length < 2) :
    Calls Try.prog 3 #[v, .int .u8 b0] w (RetV w (.bool true)) := by
  obtain ⟨ao, cap, rfl, hc1, hc2, hc3⟩ := hl.slice
  have hs := Below.refl w.heap.size w
  have HAW := Lib.hid hAw
  have HL := Lib.hid hl
  have HLT := Lib.hid a0
  clear a0
  clear hAw hl
  go_enter Try.func3, Try.ntmps3
  go_wp2_with fail
  with_reducible refine (l7_tiny _ l _ (HL.out.mono FC.kept hs)).mono ?_
  rintro e w1 ⟨rfl, hb⟩
  replace hs := bStep hs hb
  clear hb
  obtain ⟨b1, Hb1⟩ : ∃ b : Bool, b = l.all tinyF := ⟨_, rfl⟩
  rw [← Hb1]
  replace Hb1 := Lib.hid Hb1
  have q2 : l.all tinyF = true := HLT.out
  obtain rfl : b1 = true := by rw [Hb1.out]; exact q2
  have q2H := Lib.hid q2
  clear q2
  have q3 : ¬ (5 < l.length) := (by omega)
  have q3d : ((5 : Int) < (l.length : Int)) = False := eq_false (by omega)
  have q4 : l.length < 2 := (by omega)
  have q4d : ((l.length : Int) < 2) = True := eq_true (by omega)
  go_wp2_with fail
  with_reducible refine (HAW.out _).mono ?_
  rintro e w2 ⟨rfl, hb⟩
  replace hs := bStep hs hb
  clear hb
  go_wp2
  go_ret
  exact ⟨rfl, hs⟩

set_option maxRecDepth 100000 in
set_option maxHeartbeats 4000000 in
theorem l7_ScanEnergy_neg (hAw : ∀ w : World, Calls Try.prog 5 #[] w (RetV w (.bool true))) (v : Value) (l : List (Int × Int)) (b0 : Int) (w : World) (hl : RowsI 2 FC w v l) (hok : ∀ x ∈ l, DOk x) (a0 : l.all tinyF = true) (h5 : l.length ≤ 5) (h2 : 2 ≤ l.length) (L : List Rat) (hLL : L = l.map frF) (hLl : L.length = l.length) (hz : ∀ i, i < L.length → SzQ 1 (nthQ L i)) (m : Nat) (hm : m < L.length) (hm0 : nthQ L m ≤ 0) :
    Calls Try.prog 3 #[v, .int .u8 b0] w (RetV w (.bool true)) := by
  obtain ⟨ao, cap, rfl, hc1, hc2, hc3⟩ := hl.slice
  have hs := Below.refl w.heap.size w
  have HAW := Lib.hid hAw
  have HL := Lib.hid hl
  have HLT := Lib.hid a0
  clear a0
  have h2L : 2 ≤ L.length := by omega
  have HOK := Lib.hid hok
  have HLL := Lib.hid hLL
  have HLEN := Lib.hid hLl
  have HZ := Lib.hid hz
  have HM := Lib.hid hm0
  clear hok hLL hLl hz hm0
  clear hAw hl
  go_enter Try.func3, Try.ntmps3
  go_wp2_with fail
  with_reducible refine (l7_tiny _ l _ (HL.out.mono FC.kept hs)).mono ?_
  rintro e w1 ⟨rfl, hb⟩
  replace hs := bStep hs hb
  clear hb
  obtain ⟨b1, Hb1⟩ : ∃ b : Bool, b = l.all tinyF := ⟨_, rfl⟩
  rw [← Hb1]
  replace Hb1 := Lib.hid Hb1
  have q2 : l.all tinyF = true := HLT.out
  obtain rfl : b1 = true := by rw [Hb1.out]; exact q2
  have q2H := Lib.hid q2
  clear q2
  have q3 : ¬ (5 < l.length) := (by omega)
  have q3d : ((5 : Int) < (l.length : Int)) = False := eq_false (by omega)
  have q4 : ¬ (l.length < 2) := (by omega)
  have q4d : ((l.length : Int) < 2) = False := eq_false (by omega)
  go_wp2_with fail
  with_reducible refine (l7_numbers _ l _ (HL.out.mono FC.kept hs) (by omega) HOK.out).mono ?_
  rintro e w2 ⟨_, _, rfl, A5, _, hb⟩
  rw [← HLL.out] at A5
  obtain ⟨bA5, oA5, kA5, rfl, A51, A52, -⟩ := A5.open_ (by omega)
  replace hs := bStep hs hb
  clear hb
  go_wp2
  go_loopw [41] (fun s41 wq => ∃ i : Nat, i ≤ m ∧ s41 = .int .i64 i ∧ Below w.heap.size w wq ∧ Rows 3 32 PC wq (.slice (some ⟨bA5, oA5, none⟩) L.length kA5) L) (fun s41 _ => m - (intOf s41).toNat)
  case atStart => exact ⟨0, Nat.zero_le _, rfl, hs, A5⟩
  case round =>
    clear A5 hs
    obtain ⟨i, k_le, rfl, hs, A5⟩ := hrel
    have him : ¬ (nthQ L i ≤ 0) → i + 1 ≤ m := fun h => Decidable.byContradiction fun h1 => h (by rw [show i = m by omega]; exact HM.out)
    have q6 : i < L.length := (by omega)
    have q6d : ((i : Int) < (L.length : Int)) = True := eq_true (by omega)
    have BI7a : i < L.length := by omega
    have BI7b : ((i : Int) : Int) < (L.length : Int) := by omega
    obtain ⟨ge8a, ae8a, ne8a, ce8a, Ae8a, Ne8a, De8a, Ee80, Ee81, Ee82, he8a, le8⟩ := rowP_at A5 (show i < L.length by omega)
    go_wp2_with fail
    clear le8 Ee80 Ee81 Ee82
    refine Calls.abs ?_
    intro w23 hW
    have hG : Gr [] wr w23 := by rw [hW]; exact (Gr.refl _ _).alloc
    have hbw : Below w.heap.size wr w23 := hG.below0 hs.size
    have hk : KeepD wr w23 := hG.keep True.intro
    have sz_w23 : w.heap.size ≤ wr.heap.size := hs.size
    have nA5_w23 : bA5 < wr.heap.size := A5.lt (by omega)
    have Blx : Bx w23 (wr.heap.size) 32 #[.bool ge8a, .slice ae8a ne8a ce8a, .slice Ae8a Ne8a De8a] := by rw [hW]; exact (Bx.new0 _ _ _)
    replace hs := hs.trans hbw
    replace A5 := rowsJ PC.kept _ _ _ A5 (hG.below0 (Nat.le_refl _))
    replace he8a := he8a.keep hk
    clear hW hG hk hbw
    have hz_w23 : wr.heap.size < w23.heap.size := Blx.lt
    with_reducible refine (pSign he8a).mono ?_
    rintro e w24 ⟨rfl, hb⟩
    replace hs := bStep hs hb
    replace Blx := Blx.mono hb
    replace he8a := he8a.mono hb
    replace A5 := rowsJ PC.kept _ _ _ A5 hb
    clear hb
    obtain ⟨sg9, Hsg9⟩ : ∃ s : Int, s = sgQ (nthQ L i) := ⟨_, rfl⟩
    rw [← Hsg9]
    replace Hsg9 := Lib.hid Hsg9
    by_cases q10 : nthQ L i ≤ 0
    · have q10_ : sg9 ≤ 0 := by have h := s1_le (nthQ L i); rw [← Hsg9.out] at h; exact h.2 q10
      have q10H := Lib.hid q10
      clear q10
      have q10d : decide (sg9 ≤ 0) = true := decide_eq_true q10_
      go_wp2_with fail
      with_reducible refine (HAW.out _).mono ?_
      rintro e w25 ⟨rfl, hb⟩
      replace hs := bStep hs hb
      replace Blx := Blx.mono hb
      replace he8a := he8a.mono hb
      replace A5 := rowsJ PC.kept _ _ _ A5 hb
      clear hb
      go_wp2
      go_ret
      exact ⟨rfl, hs⟩
    · have q10_ : ¬ (sg9 ≤ 0) := by have h := s1_le (nthQ L i); rw [← Hsg9.out] at h; exact fun h1 => q10 (h.1 h1)
      have q10H := Lib.hid q10
      clear q10
      have q10d : decide (sg9 ≤ 0) = false := decide_eq_false q10_
      have hi1 := him q10H.out
      go_wp2
      go_roundw
      case rel => exact ⟨i + 1, by omega, by go_num, hs, A5⟩
      all_goals first | (simp [intOf]; done) | (simp [intOf]; omega)

theorem tiny_sz {x : Int × Int} (h : tinyF x = true) (h2 : DOk x) : SzQ 1 (frF x) := by
  unfold tinyF at h
  simp only [Bool.not_eq_true', Bool.or_eq_false_iff, decide_eq_false_iff_not] at h
  exact szQ_fracQ (by omega) (by omega)
theorem l7_ScanEnergy_all (hAw : ∀ w : World, Calls Try.prog 5 #[] w (RetV w (.bool true))) (v : Value) (l : List (Int × Int)) (b0 : Int) (w : World) (hl : RowsI 2 FC w v l) (hok : ∀ x ∈ l, DOk x) (p0 : 0 ≤ b0 ∧ b0 ≤ 255) :
    Calls Try.prog 3 #[v, .int .u8 b0] w (RetV w (.bool true)) := by
  by_cases a0 : l.all tinyF = true
  · by_cases h5 : l.length ≤ 5
    · by_cases h2 : 2 ≤ l.length
      · obtain ⟨L, hLL⟩ : ∃ L, L = l.map frF := ⟨_, rfl⟩
        have hLl : L.length = l.length := by rw [hLL, List.length_map]
        have hz : ∀ i, i < L.length → SzQ 1 (nthQ L i) := fun i hi => by
          have e := nthQ_some hi
          rw [hLL, List.getElem?_map] at e
          obtain ⟨x, hx, ex⟩ := Option.map_eq_some_iff.1 e
          have hm := List.mem_of_getElem? hx
          rw [← hLL] at ex
          rw [← ex]
          exact tiny_sz (List.all_eq_true.1 a0 x hm) (hok x hm)
        by_cases hap : allPos L = true
        · have hp := nthQ_pos hap
          have h2L : 2 ≤ L.length := by omega
          have h5L : L.length ≤ 5 := by omega
          obtain ⟨K, hK⟩ : ∃ K : Nat, 1 + b0 % 6 = (K : Int) := ⟨(1 + b0 % 6).toNat, by omega⟩
          have k1 : 1 ≤ K := by omega
          have k6 : K ≤ 6 := by omega
          have lB := rgBks_length L K
          have lT := rgThs_length L K
          have sB : ∀ i, i < (rgBks L K).length → SzQ 2200 (nthQ (rgBks L K) i) := fun i hi => by
            rw [rgBks_nth L (by omega)]; exact (rgBk_sz hz hp (t := i) (by omega) (i := 0) (by omega)).1
          have sT : ∀ i, i < (rgThs L K).length → SzQ 2200 (nthQ (rgThs L K) i) := fun i hi => by
            rw [rgThs_nth L (by omega)]; exact (rgBk_sz hz hp (t := i) (by omega) (i := L.length - 2) (by omega)).2
          have sI : SzQ 30000 (rgIns L K) := ((rgIn_sz hz hp k6 (L.length - 1) (by omega)).mul (hz 0 (by omega))).mono (by omega)
          have hlm : (L.map layE).length = L.length := List.length_map _
          have hlz : ∀ x ∈ L.map layE, LaySz 1 x := fun x hx => by
            obtain ⟨y, hy, rfl⟩ := List.mem_map.1 hx
            obtain ⟨i, hi, e⟩ := List.getElem_of_mem hy
            have h1 := hz i hi
            have e1 := nthQ_some hi
            rw [List.getElem?_eq_getElem hi, e] at e1
            injection e1 with e1
            rw [← e1] at h1
            exact ⟨h1, szQ_one, szQ_one⟩
          have hlp : (L.map layE).all layPos = true := by
            rw [List.all_eq_true]
            intro x hx
            obtain ⟨y, hy, rfl⟩ := List.mem_map.1 hx
            have h1 : 0 < y := of_decide_eq_true (List.all_eq_true.1 hap y hy)
            unfold layPos layE
            rw [decide_eq_true h1, decide_eq_true (show (0 : Rat) < 1 by decide +kernel)]
            rfl
          have hla : ∀ i, i < L.length → layAt (L.map layE) i = (nthQ L i, 1, 1) := fun i hi => by
            have e1 := lay_some (l := L.map layE) (i := i) (by rw [hlm]; exact hi)
            rw [List.getElem?_map, nthQ_some hi] at e1
            exact (Option.some.inj e1).symm
          have hrf : ∀ i, i + 1 < L.length → rfQ (L.map layE) i = rgR L i := fun i hi => by
            unfold rfQ rgR
            rw [hla i (by omega), hla (i + 1) hi]
          have lX : (echoQ (L.map layE) ((L.map layE).length - 1)).length + 1 = L.length := by rw [echoQ_length, hlm]; omega
          have hne : nthQ L (L.length - 1) ≠ 0 := fun e => by have := hp (L.length - 1) (by omega); rw [e] at this; exact Rat.lt_irrefl this
          refine l7_ScanEnergy_ok hAw v l b0 w hl hok p0 a0 L hLL hLl h2L h5L hap hz K hK k1 k6 _ _ _ rfl rfl rfl lB lT (rgIns_nonneg hp h2L K) sI sB sT
            ((sq_szQ sB _ (Nat.le_refl _)).mono (by omega)) ((sq_szQ sT _ (Nat.le_refl _)).mono (by omega)) hne (by rw [lB, lT]; exact rg_energy hp h2L K) _ layJ_all _ hlz hlp hlm rfl lX (echo_szs (B := 1) (by omega) (by omega) hlz hlp rfl) ?_ ?_ ?_
          · rw [rgBks_nth L (by omega), (ta_echo (by omega)).2, rg_first, ← hrf 0 (by omega)]
            simp [lfQ, Rat.one_mul]
          · intro h1 h3
            rw [rgBks_nth L (by omega), (ta_echo (by omega)).2, rg_second (by omega), ← hrf 0 (by omega), ← hrf 1 (by omega)]
            rfl
          · intro i hi ho
            rw [rgBks_nth L (by omega)]
            exact rg_odd L ho
        · obtain ⟨m, hm, hm0⟩ : ∃ m, m < L.length ∧ nthQ L m ≤ 0 := Decidable.byContradiction fun h => hap (List.all_eq_true.2 fun y hy => by
            obtain ⟨i, hi, e⟩ := List.getElem_of_mem hy
            have e1 := nthQ_some hi
            rw [List.getElem?_eq_getElem hi, e] at e1
            injection e1 with e1
            rw [e1, decide_eq_true_eq]
            exact Decidable.byContradiction fun h1 => h ⟨i, hi, Rat.not_lt.1 h1⟩)
          exact l7_ScanEnergy_neg hAw v l b0 w hl hok a0 h5 h2 L hLL hLl hz m hm hm0
      · exact l7_ScanEnergy_few hAw v l b0 w hl a0 (by omega)
    · exact l7_ScanEnergy_long hAw v l b0 w hl a0 (by omega)
  · exact l7_ScanEnergy_dim hAw v l b0 w hl a0
end Go.Proofs.Ytkfekkhhfpkfaaa
