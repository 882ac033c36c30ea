/-
  Law 08: AllowFits.
-/
import Derived.Test.YtmnipggjjcmjkaaAlX
import Derived.Test.YtmnipggjjcmjkaaAlAw
import Derived.Test.YtmnipggjjcmjkaaFit0
set_option linter.unusedSimpArgs false
set_option linter.unusedVariables false
namespace Go.Proofs.Ytmnipggjjcmjkaa
open Go.RowKit Dg
attribute [local go_sem ↓] Go.wp_at_zero Go.wp_at_succ

/-- The tail of class i. -/
def tlC (A : List Cls) (p : Rat) (i : Nat) : Rat := tlQ p (clAt A i).1.toNat (clAt A i).2.toNat
theorem tlC_sz {A : List Cls} (hA : ∀ c ∈ A, ClOk c) {p : Rat} (p0 : 0 ≤ p ∧ p ≤ 1) (sp : SzQ 1 p) {i : Nat} (hi : i < A.length) : SzQ 10000 (tlC A p i) := by
  have o := hA _ (List.mem_of_getElem? (clAt_some hi))
  unfold ClOk at o
  exact (tl_sz p0.1 p0.2 sp (clAt A i).1.toNat _).mono (by omega)
theorem al_Tail_c {v : Value} {p : Rat} {A : List Cls} {i : Nat} {t f : Int} (w : World) (ht : (clAt A i).1 = t) (hf : (clAt A i).2 = f) (h1 : 1 ≤ t) (h2 : t ≤ 64) (h3 : 0 ≤ f) (hp : PV w v p) (sp : SzQ 1 p) (p0 : 0 ≤ p ∧ p ≤ 1) :
    Calls Try.prog 9 #[.int .i64 t, .int .i64 f, v] w (RetPE w (tlC A p i) 0) := by
  have h := al_Tail_ok (n := t.toNat) (k := ((f.toNat : Nat) : Int)) w hp sp p0.1 p0.2 (by omega) ((tailQ_nat t.toNat f.toNat p).trans (show tlQ p t.toNat f.toNat = tlC A p i by subst ht hf; rfl))
  rwa [show ((t.toNat : Nat) : Int) = t by omega, show ((f.toNat : Nat) : Int) = f by omega] at h
theorem p_Zero_eq {v : Value} {q : Rat} {w : World} {b : Bool} (h : PV w v q) (hb : decide (q = 0) = b) : Calls Try.prog 26 #[v] w (RetV w (.bool b)) := by
  subst hb
  exact p_Zero_calls _ _ _ h

set_option maxRecDepth 100000 in
set_option maxHeartbeats 16000000 in
theorem l8_Fits_nil (v vo : Value) (l : List (Int × Int)) (O : List Int) (b c : Int) (w : World) (hl : RowsI 2 U2C w v l) (ho : RowsI 1 W8C w vo O) (h0 : l.length ≤ 0) :
    Calls Try.prog 6 #[v, vo, .int .u8 b, .int .u8 c] w (RetV w (.bool true)) := by
  obtain ⟨ao, cap, rfl, hc1, hc2, hc3⟩ := hl.slice
  obtain ⟨ai, ci, rfl, hd1, hd2, hd3⟩ := ho.slice
  have hs := Below.refl w.heap.size w
  obtain ⟨i0, hi, hz0, hz1, hz2⟩ := info_parts cls_info
  obtain ⟨q0, hq, hx0, hx1, hx2⟩ := info_parts alP_info
  have HLL := Lib.hid hl
  have HO1 := Lib.hid ho
  clear hl ho
  go_enter Try.func6, Try.ntmps6
  go_wp2
  go_loopw [9, 36] (fun s9 s36 wq => ∃ i : Nat, i ≤ l.length ∧ s36 = .int .i64 i ∧ Below w.heap.size w wq ∧ OwnR w.heap.size 48 2 ClC wq s9 (fitA l i)) (fun s9 s36 _ => l.length - (intOf s36).toNat)
  case atStart => exact ⟨0, Nat.zero_le _, rfl, hs, OwnR.nil _ _ _ _ _⟩
  case round =>
    clear hs
    obtain ⟨i, k_le, rfl, hs, Ooa⟩ := hrel
    have lna := (fitA_len l i).2
    obtain ⟨a9, c9, e9, -, -, -⟩ := Ooa.slice
    subst e9
    clear Ooa
    have lna2 : (fitA l i).length ≤ 0 := Nat.le_trans (fitA_len l i).1 (by omega)
    have q1 : ¬ (i < l.length) := (by omega)
    have q1d : ((i : Int) < (l.length : Int)) = False := eq_false (by omega)
    go_wp2_with fail
    with_reducible refine (l8_awake _).mono ?_
    rintro e w21 ⟨rfl, hb⟩
    replace hs := bStep hs hb
    clear hb
    have q2 : (fitA l i).length = 0 := (by omega)
    have q2b : (((fitA l i).length : Int) == 0) = true := beq_iff_eq.2 (by omega)
    have q2n : (((fitA l i).length : Int) != 0) = false := bne_eq_false_iff_eq.2 (by omega)
    have q2H := Lib.hid q2
    clear q2
    go_wp2_with fail
    with_reducible refine (l8_awake _).mono ?_
    rintro e w22 ⟨rfl, hb⟩
    replace hs := bStep hs hb
    clear hb
    go_wp2
    go_ret
    exact ⟨rfl, hs⟩

set_option maxRecDepth 100000 in
set_option maxHeartbeats 16000000 in
theorem l8_Fits_ok (v vo : Value) (l : List (Int × Int)) (O : List Int) (b c : Int) (w : World) (hl : RowsI 2 U2C w v l) (ho : RowsI 1 W8C w vo O) (hl8 : ∀ x ∈ l, (0 ≤ x.1 ∧ x.1 ≤ 255) ∧ (0 ≤ x.2 ∧ x.2 ≤ 255)) (hO : ∀ x ∈ O, 0 ≤ x ∧ x ≤ 255) (bb : 0 ≤ b ∧ b ≤ 255) (bc : 0 ≤ c ∧ c ≤ 255)
    (A : List Cls) (hA : fitA l l.length = A) (A1 : 1 ≤ A.length) (A6 : A.length ≤ 6) (hok : ∀ x ∈ A, ClOk x)
    (X : List Rat) (hX : outR (pavL A) = X) (X1 : X.length ≤ A.length) (X2 : A.length ≤ X.length) (hup : ∀ i, 0 < i → i < X.length → ¬ nthQ X i < nthQ X (i - 1)) (hXz : ∀ i, i < X.length → SzQ 1 (nthQ X i))
    (best m : Rat) (hbe : mfL A X = best) (hmm : mfL A (ownK O A.length) = m) (sbest : SzQ 100 best) (sm : SzQ 100 m) (hle : ¬ m < best) (rz : Bool) (hrz : upT A A.length = rz) (hbz : decide (best = 0) = rz)
    (p u : Rat) (hp : ((b % 17 : Int) : Rat) / ((16 : Int) : Rat) = p) (hu : ((c % 17 : Int) : Rat) / ((16 : Int) : Rat) = u) (sp : SzQ 1 p) (su : SzQ 1 u) (cp : 0 ≤ p ∧ p ≤ 1) (cu : 0 ≤ u ∧ u ≤ 1)
    (D : Nat) (hD : relF (prvC A u p) A.length = D) (D1 : D ≤ A.length) (r1 r2 : Int) (hr1 : r1 = if D = A.length then 0 else (D : Int)) (hr2 : r2 = if D = A.length then 5 else 0) (hrr : (D = A.length ∧ r1 = 0 ∧ r2 = 5) ∨ (D < A.length ∧ r1 = D ∧ r2 = 0))
    (hps : ∀ i, i < A.length → (D ≤ i → tlC A p i ≤ 1 - u) ∧ (i + 1 = D → ¬ tlC A p i ≤ 1 - u)) :
    Calls Try.prog 6 #[v, vo, .int .u8 b, .int .u8 c] w (RetV w (.bool true)) := by
  obtain ⟨ao, cap, rfl, hc1, hc2, hc3⟩ := hl.slice
  obtain ⟨ai, ci, rfl, hd1, hd2, hd3⟩ := ho.slice
  have hs := Below.refl w.heap.size w
  obtain ⟨i0, hi, hz0, hz1, hz2⟩ := info_parts cls_info
  obtain ⟨q0, hq, hx0, hx1, hx2⟩ := info_parts alP_info
  have HLL := Lib.hid hl
  have HO1 := Lib.hid ho
  have HL8 := Lib.hid hl8
  have HOO := Lib.hid hO
  have HA := Lib.hid hA
  have HOK := Lib.hid hok
  have HX := Lib.hid hX
  have HUP := Lib.hid hup
  have HXZ := Lib.hid hXz
  have HBE := Lib.hid hbe
  have HMM := Lib.hid hmm
  have HLE := Lib.hid hle
  have HRZ := Lib.hid hrz
  have HBZ := Lib.hid hbz
  have HP := Lib.hid hp
  have HU := Lib.hid hu
  have CP := Lib.hid cp
  have CU := Lib.hid cu
  have HD := Lib.hid hD
  have HR1 := Lib.hid hr1
  have HR2 := Lib.hid hr2
  have HRR := Lib.hid hrr
  have HPS := Lib.hid hps
  clear hl ho hl8 hO hA hok hX hup hXz hbe hmm hle hrz hbz hp hu cp cu hD hr1 hr2 hrr hps
  obtain ⟨bb1, bb2⟩ := bb
  obtain ⟨bc1, bc2⟩ := bc
  go_enter Try.func6, Try.ntmps6
  go_wp2
  go_loopw [9, 36] (fun s9 s36 wq => ∃ i : Nat, i ≤ l.length ∧ s36 = .int .i64 i ∧ Below w.heap.size w wq ∧ OwnR w.heap.size 48 2 ClC wq s9 (fitA l i)) (fun s9 s36 _ => l.length - (intOf s36).toNat)
  case atStart => exact ⟨0, Nat.zero_le _, rfl, hs, OwnR.nil _ _ _ _ _⟩
  case round =>
    clear hs
    obtain ⟨i, k_le, rfl, hs, Ooa⟩ := hrel
    have lna := (fitA_len l i).2
    by_cases q1 : i < l.length
    · have q1d : ((i : Int) < (l.length : Int)) = True := eq_true (by omega)
      obtain ⟨bbe2, ooe2, cce2, hve2, Ee20, Ee21, le2⟩ := rowU2_at (HLL.out.mono U2C.kept hs) (show i < l.length by omega)
      obtain ⟨rfl, rfl⟩ := sliceE hve2
      obtain ⟨ye2, Hye2⟩ : ∃ z : Int, z = (clAt l i).1 := ⟨_, rfl⟩
      rw [← Hye2] at Ee20
      obtain ⟨ze2, Hze2⟩ : ∃ z : Int, z = (clAt l i).2 := ⟨_, rfl⟩
      rw [← Hze2] at Ee21
      obtain ⟨⟨bye21, bye22⟩, bze21, bze22⟩ : (0 ≤ ye2 ∧ ye2 ≤ 255) ∧ (0 ≤ ze2 ∧ ze2 ≤ 255) := by rw [Hye2, Hze2]; exact HL8.out _ (List.mem_of_getElem? (clAt_some (show i < l.length by omega)))
      replace Hye2 := Lib.hid Hye2.symm
      replace Hze2 := Lib.hid Hze2.symm
      by_cases q3 : i < 6
      · have q3d : ((i : Int) < 6) = True := eq_true (by omega)
        go_wp2_with (at_builtin; refine wpList.stop ?_)
        refine ⟨?_⟩
        clear le2 Ee20 Ee21
        refine wpList.abs ?_
        intro w21 hW
        have hG : Gr [] wr w21 := by rw [hW]; exact (Gr.refl _ _).alloc.alloc
        have hbw : Below w.heap.size wr w21 := hG.below0 hs.size
        have hk : KeepD wr w21 := hG.keep True.intro
        have sz_w21 : w.heap.size ≤ wr.heap.size := hs.size
        have Blx : Bx w21 (wr.heap.size) 22 #[.int .u8 ye2, .int .u8 ze2] := by rw [hW]; exact ((Bx.new0 _ _ _).alloc _)
        have Blls : Bx w21 (wr.heap.size + 1) 48 #[.int .i64 (1 + ye2 % 10), .int .i64 (ze2 % (1 + ye2 % 10 + 1))] := by rw [hW]; exact (Bx.new0 _ _ _)
        replace hs := hs.trans hbw
        replace Ooa := Ooa.mono ClC.kept (hG.below0 (Nat.le_refl _))
        clear hW hG hk hbw
        have hz_w21 : wr.heap.size + 1 < w21.heap.size := Blls.lt
        obtain ⟨css, ho1, ho2, ho3, hown0⟩ := Ooa
        refine wpList_append_lies _ rfl _ _ _ rfl w.heap.size 48 i0 _ 2 16 Try.underlying57 hi hz0 hz1 hz2 rfl (by omega) _ _ css.flatten rfl hown0 ⟨wr.heap.size + 1, 0, none⟩ 1 1 [.int .i64 (1 + ye2 % 10), .int .i64 (ze2 % (1 + ye2 % 10 + 1))] rfl rfl Blls.news ?_ (by omega) ?_ ?_ ?_ _ rfl ?_
        · intro u hu; simp only [List.mem_cons, List.mem_nil_iff, or_false] at hu; rcases hu with rfl | rfl <;> rfl
        · unfold maxLen; (try simp only [List.length_append, List.length_cons, List.length_nil]); omega
        · (try simp only [List.length_append, List.length_cons, List.length_nil]); omega
        · exact hs.size
        intro goa capoa w22 hown1 hgrow hat hlt_
        have hk_ := KeepD.owns hown0 hgrow (by decide)
        have ho := owns_onlyT hown0 hgrow
        replace hs := hs.grown hgrow hs.size (fun k hk => (hown0.lt k hk).1)
        replace Ooa := OwnR.push' ClC.kept ho1 ho2 ho3 (x := ((1 + ye2 % 10), (ze2 % (1 + ye2 % 10 + 1)))) rfl rfl (by simp) hown1 hk_
        replace Blx := Blx.only ho (by decide)
        clear hk_ ho ho1 ho2 ho3 hown0 hown1 hgrow hat hlt_ Blls
        go_wp2
        go_roundw
        case rel => exact ⟨i + 1, by omega, by go_num, hs, by rw [fitA_yes (show i < l.length by omega) (by omega) Hye2.out Hze2.out rfl rfl]; exact Ooa⟩
        all_goals first | (simp [intOf]; done) | (simp [intOf]; omega)
      · have q3d : ((i : Int) < 6) = False := eq_false (by omega)
        go_upto_region 8 with fail
        clear le2 Ee20 Ee21
        refine Code.abs ?_
        intro w21 hW
        have hG : Gr [] wr w21 := by rw [hW]; exact (Gr.refl _ _).alloc
        have hbw : Below w.heap.size wr w21 := hG.below0 hs.size
        have hk : KeepD wr w21 := hG.keep True.intro
        have sz_w21 : w.heap.size ≤ wr.heap.size := hs.size
        have Blx : Bx w21 (wr.heap.size) 22 #[.int .u8 ye2, .int .u8 ze2] := by rw [hW]; exact (Bx.new0 _ _ _)
        replace hs := hs.trans hbw
        replace Ooa := Ooa.mono ClC.kept (hG.below0 (Nat.le_refl _))
        clear hW hG hk hbw
        have hz_w21 : wr.heap.size < w21.heap.size := Blx.lt
        go_wp2
        go_roundw
        case rel => exact ⟨i + 1, by omega, by go_num, hs, by rw [fitA_no (show ¬ i < 6 by omega)]; exact Ooa⟩
        all_goals first | (simp [intOf]; done) | (simp [intOf]; omega)
    · have q1d : ((i : Int) < (l.length : Int)) = False := eq_false (by omega)
      obtain rfl : i = l.length := by omega
      have ha := Ooa.rows
      rw [HA.out] at ha
      clear Ooa lna
      obtain ⟨bha, oha, kha, rfl, ha1, ha2, -⟩ := ha.open_ (by omega)
      go_wp2_with fail
      with_reducible refine (l8_awake _).mono ?_
      rintro e w21 ⟨rfl, hb⟩
      replace hs := bStep hs hb
      replace ha := rowsJ ClC.kept _ _ _ ha hb
      clear hb
      have q2 : ¬ (A.length = 0) := (by omega)
      have q2b : ((A.length : Int) == 0) = false := beq_eq_false_iff_ne.2 (by omega)
      have q2n : ((A.length : Int) != 0) = true := bne_iff_ne.2 (by omega)
      have q2H := Lib.hid q2
      clear q2
      go_wp2_with fail
      with_reducible refine (al_Rising _ ha.toI (by omega) (by omega) HOK.out).mono ?_
      rintro e w22 ⟨_, _, rfl, hx3, rfl, hb⟩
      rw [HX.out] at hx3
      obtain ⟨bhx3, ohx3, khx3, rfl, hx31, hx32, -⟩ := hx3.open_ (by omega)
      replace hs := bStep hs hb
      replace ha := rowsJ ClC.kept _ _ _ ha hb
      clear hb
      have q4 : X.length = A.length := (by omega)
      have q4b : ((X.length : Int) == (A.length : Int)) = true := beq_iff_eq.2 (by omega)
      have q4n : ((X.length : Int) != (A.length : Int)) = false := bne_eq_false_iff_eq.2 (by omega)
      have q4H := Lib.hid q4
      clear q4
      go_wp2
      have HB0_5 := Lib.hid hs
      clear hs
      have hs := Below.refl w22.heap.size w22
      have Fha := Lib.hid ha
      clear ha
      have Fhx3 := Lib.hid hx3
      clear hx3
      go_loopw [15, 16, 17, 84] (fun s15 s16 s17 s84 wq => ∃ k : Nat, k ≤ A.length ∧ s84 = .int .i64 k ∧ s17 = .bool (upT A k) ∧ Below w22.heap.size w22 wq ∧ OwnR w22.heap.size 26 3 PC wq s15 (ownK O k) ∧ OwnR w22.heap.size 26 3 PC wq s16 (shK A k) ∧ (Ap2 s15.ownBlock s16.ownBlock)) (fun s15 s16 s17 s84 _ => A.length - (intOf s84).toNat)
      case atStart => exact ⟨0, Nat.zero_le _, rfl, rfl, hs, OwnR.nil _ _ _ _ _, OwnR.nil _ _ _ _ _, Ap2.nil _⟩
      case round =>
        clear hs
        obtain ⟨k, k_le, rfl, rfl, hs, Oow, Osh, Aq_ow_sh⟩ := hrel
        obtain ⟨b6, Hb6⟩ : ∃ b : Bool, b = upT A k := ⟨_, rfl⟩
        rw [← Hb6]
        replace Hb6 := Lib.hid Hb6
        have lno1 : (ownK O k).length ≤ k := Nat.le_of_eq (ownK_len O k)
        have lno2 : k ≤ (ownK O k).length := Nat.le_of_eq (ownK_len O k).symm
        have lns1 : (shK A k).length ≤ k := Nat.le_of_eq (shK_len A k)
        have lns2 : k ≤ (shK A k).length := Nat.le_of_eq (shK_len A k).symm
        obtain ⟨vv, hvv⟩ : ∃ z : Int, z = othI O k := ⟨_, rfl⟩
        have bvv := othI_bd HOO.out k
        rw [← hvv] at bvv
        obtain ⟨bvv1, bvv2⟩ := bvv
        have HVV := Lib.hid hvv.symm
        clear hvv
        by_cases q7 : k < A.length
        · have q7d : ((k : Int) < (A.length : Int)) = True := eq_true (by omega)
          obtain ⟨Ee80, Ee81, le8⟩ := rowCl_at (rowsJ ClC.kept _ _ _ Fha.out hs) (show k < A.length by omega)
          obtain ⟨te8, Hte8⟩ : ∃ z : Int, z = (clAt A k).1 := ⟨_, rfl⟩
          obtain ⟨fe8, Hfe8⟩ : ∃ z : Int, z = (clAt A k).2 := ⟨_, rfl⟩
          rw [← Hte8] at Ee80
          rw [← Hfe8] at Ee81
          obtain ⟨bte8a, bte8b, bfe8a, bfe8b⟩ : 1 ≤ te8 ∧ te8 ≤ 64 ∧ 0 ≤ fe8 ∧ fe8 ≤ te8 := by rw [Hte8, Hfe8]; exact HOK.out _ (List.mem_of_getElem? (clAt_some (by omega)))
          replace Hte8 := Lib.hid Hte8.symm
          replace Hfe8 := Lib.hid Hfe8.symm
          go_upto_region 19 with fail
          clear le8 Ee80 Ee81
          refine Code.abs ?_
          intro w43 hW
          have hG : Gr [] wr w43 := by rw [hW]; exact (Gr.refl _ _).alloc
          have hbw : Below w22.heap.size wr w43 := hG.below0 hs.size
          have hk : KeepD wr w43 := hG.keep True.intro
          have sz_w43 : w22.heap.size ≤ wr.heap.size := hs.size
          have Blc : Bx w43 (wr.heap.size) 48 #[.int .i64 te8, .int .i64 fe8] := by rw [hW]; exact (Bx.new0 _ _ _)
          replace hs := hs.trans hbw
          replace Oow := Oow.mono PC.kept (hG.below0 (Nat.le_refl _))
          replace Osh := Osh.mono PC.kept (hG.below0 (Nat.le_refl _))
          clear hW hG hk hbw
          have hz_w43 : wr.heap.size < w43.heap.size := Blc.lt
          by_cases q9 : 0 < k
          · have q9d : ((0 : Int) < (k : Int)) = True := eq_true (by omega)
            have BI10a : k < X.length := by omega
            have BI10b : ((k : Int) : Int) < (X.length : Int) := by omega
            obtain ⟨ge11a, ae11a, ne11a, ce11a, Ae11a, Ne11a, De11a, Ee110, Ee111, Ee112, he11a, le11⟩ := rowP_at (rowsJ PC.kept _ _ _ Fhx3.out hs) (show k < X.length by omega)
            have SW12a := IntWalk.i64_in ((k : Int) - 1) (by omega)
            have SW12b : (0 : Int) ≤ (k : Int) - 1 := by omega
            have SW12c : ((k : Int) - 1).toNat = (k - 1) := by omega
            have SW12d : (k : Int) - 1 < (X.length : Int) := by omega
            have SW12e : (1 : Int) ≤ (k : Int) := by omega
            have SW12f : (k : Int) < (X.length : Int) + 1 := by omega
            have BI13a : (k - 1) < X.length := by omega
            have BI13b : ((k : Int) - 1 : Int) < (X.length : Int) := by omega
            obtain ⟨ge14a, ae14a, ne14a, ce14a, Ae14a, Ne14a, De14a, Ee140, Ee141, Ee142, he14a, le14⟩ := rowP_at (rowsJ PC.kept _ _ _ Fhx3.out hs) (show (k - 1) < X.length by omega)
            obtain ⟨sg15, Hsg15⟩ : ∃ s : Int, s = sgQ ((nthQ X k) - (nthQ X (k - 1))) := ⟨_, rfl⟩
            replace Hsg15 := Lib.hid Hsg15
            refine U_region (S := fun w' => w'.cell? ⟨bhx3, ohx3 + k * 3, none⟩ = some (.bool ge11a) ∧ w'.cell? ⟨bhx3, ohx3 + k * 3 + 1, none⟩ = some (.slice ae11a ne11a ce11a) ∧ w'.cell? ⟨bhx3, ohx3 + k * 3 + 2, none⟩ = some (.slice Ae11a Ne11a De11a) ∧ w'.cell? ⟨bhx3, ohx3 + (k - 1) * 3, none⟩ = some (.bool ge14a) ∧ w'.cell? ⟨bhx3, ohx3 + (k - 1) * 3 + 1, none⟩ = some (.slice ae14a ne14a ce14a) ∧ w'.cell? ⟨bhx3, ohx3 + (k - 1) * 3 + 2, none⟩ = some (.slice Ae14a Ne14a De14a)) (by kernel_rfl) 15 ?_
            refine AnyU.abs ?_
            intro w44 hW
            have hb : Below w43.heap.size w43 w44 := by rw [hW]; exact bDrew _
            replace hs := bStep hs hb
            replace Blc := Blc.mono hb
            replace he11a := he11a.mono hb
            replace he14a := he14a.mono hb
            replace Oow := Oow.mono PC.kept hb
            replace Osh := Osh.mono PC.kept hb
            replace Ee110 := cellK Ee110 hb
            replace Ee111 := cellK Ee111 hb
            replace Ee112 := cellK Ee112 hb
            replace Ee140 := cellK Ee140 hb
            replace Ee141 := cellK Ee141 hb
            replace Ee142 := cellK Ee142 hb
            clear hb hW
            have hH := (show w44.cell? ⟨bhx3, ohx3 + k * 3, none⟩ = some (.bool ge11a) ∧ w44.cell? ⟨bhx3, ohx3 + k * 3 + 1, none⟩ = some (.slice ae11a ne11a ce11a) ∧ w44.cell? ⟨bhx3, ohx3 + k * 3 + 2, none⟩ = some (.slice Ae11a Ne11a De11a) ∧ w44.cell? ⟨bhx3, ohx3 + (k - 1) * 3, none⟩ = some (.bool ge14a) ∧ w44.cell? ⟨bhx3, ohx3 + (k - 1) * 3 + 1, none⟩ = some (.slice ae14a ne14a ce14a) ∧ w44.cell? ⟨bhx3, ohx3 + (k - 1) * 3 + 2, none⟩ = some (.slice Ae14a Ne14a De14a) from ⟨Ee110, Ee111, Ee112, Ee140, Ee141, Ee142⟩)
            refine U_takeN (i := 0) (d := 89) (v := ?_) rfl rfl rfl (by kernel_rfl) (by kernel_rfl) (by kernel_rfl) (fun _ _ _ h => h) (Or.inl ⟨by rfl, ?_⟩) hH ?_
            rotate_left
            · intro w hSw
              try dsimp only at hSw
              go_simp
              try with_reducible rfl
            simp only [LY]
            refine U_takeN (i := 1) (d := 90) (v := ?_) rfl rfl rfl (by kernel_rfl) (by kernel_rfl) (by kernel_rfl) (fun _ _ _ h => h) (Or.inl ⟨by rfl, ?_⟩) hH ?_
            rotate_left
            · intro w hSw
              try dsimp only at hSw
              go_simp
              try with_reducible rfl
            simp only [LY]
            refine U_takeN (i := 2) (d := 91) (v := ?_) rfl rfl rfl (by kernel_rfl) (by kernel_rfl) (by kernel_rfl) (fun _ _ _ h => h) (Or.inl ⟨by rfl, ?_⟩) hH ?_
            rotate_left
            · intro w hSw
              try dsimp only at hSw
              go_simp
              try with_reducible rfl
            simp only [LY]
            refine U_takeN (i := 3) (d := 92) (v := ?_) rfl rfl rfl (by kernel_rfl) (by kernel_rfl) (by kernel_rfl) (fun _ _ _ h => h) (Or.inl ⟨by rfl, ?_⟩) hH ?_
            rotate_left
            · intro w hSw
              try dsimp only at hSw
              go_simp
              try with_reducible rfl
            simp only [LY]
            refine U_takeN (i := 4) (d := 93) (v := ?_) rfl rfl rfl (by kernel_rfl) (by kernel_rfl) (by kernel_rfl) (fun _ _ _ h => h) (Or.inl ⟨by rfl, ?_⟩) hH ?_
            rotate_left
            · intro w hSw
              try dsimp only at hSw
              go_simp
              try with_reducible rfl
            simp only [LY]
            refine U_takeN (i := 5) (d := 94) (v := ?_) rfl rfl rfl (by kernel_rfl) (by kernel_rfl) (by kernel_rfl) (fun _ _ _ h => h) (Or.inl ⟨by rfl, ?_⟩) hH ?_
            rotate_left
            · intro w hSw
              try dsimp only at hSw
              go_simp
              try with_reducible rfl
            simp only [LY]
            refine U_takeN (i := 6) (d := 95) (v := ?_) rfl rfl rfl (by kernel_rfl) (by kernel_rfl) (by kernel_rfl) (fun _ _ _ h => h) (Or.inl ⟨by rfl, ?_⟩) hH ?_
            rotate_left
            · intro w hSw
              try dsimp only at hSw
              go_simp
              try with_reducible rfl
            simp only [LY]
            refine U_takeN (i := 7) (d := 96) (v := ?_) rfl rfl rfl (by kernel_rfl) (by kernel_rfl) (by kernel_rfl) (fun _ _ _ h => h) (Or.inl ⟨by rfl, ?_⟩) hH ?_
            rotate_left
            · intro w hSw
              try dsimp only at hSw
              go_simp
              try with_reducible rfl
            simp only [LY]
            refine U_takeN (i := 8) (d := 97) (v := ?_) rfl rfl rfl (by kernel_rfl) (by kernel_rfl) (by kernel_rfl) (fun _ _ _ h => h) (Or.inl ⟨by rfl, ?_⟩) hH ?_
            rotate_left
            · intro w hSw
              try dsimp only at hSw
              go_simp
              try with_reducible rfl
            simp only [LY]
            refine U_takeN (i := 9) (d := 98) (v := ?_) rfl rfl rfl (by kernel_rfl) (by kernel_rfl) (by kernel_rfl) (fun _ _ _ h => h) (Or.inl ⟨by rfl, ?_⟩) hH ?_
            rotate_left
            · intro w hSw
              try dsimp only at hSw
              go_simp
              try with_reducible rfl
            simp only [LY]
            refine U_takeN (i := 10) (d := 99) (v := ?_) rfl rfl rfl (by kernel_rfl) (by kernel_rfl) (by kernel_rfl) (fun _ _ _ h => h) (Or.inl ⟨by rfl, ?_⟩) hH ?_
            rotate_left
            · intro w hSw
              try dsimp only at hSw
              go_simp
              try with_reducible rfl
            simp only [LY]
            refine U_takeN (i := 11) (d := 100) (v := ?_) rfl rfl rfl (by kernel_rfl) (by kernel_rfl) (by kernel_rfl) (fun _ _ _ h => h) (Or.inl ⟨by rfl, ?_⟩) hH ?_
            rotate_left
            · intro w hSw
              try dsimp only at hSw
              go_simp
              try with_reducible rfl
            simp only [LY]
            clear hH
            refine U_one (i := 12) (by kernel_rfl) rfl (fun K hK => ?_)
            go_simp
            (with_reducible refine (pCmp he11a he14a (SzQ.fit (HXZ.out k (by omega))) (SzQ.fit (HXZ.out (k - 1) (by omega)))).mono ?_)
            rintro e w45 ⟨rfl, hb⟩
            replace hs := bStep hs hb
            replace Blc := Blc.mono hb
            replace he11a := he11a.mono hb
            replace he14a := he14a.mono hb
            replace Oow := Oow.mono PC.kept hb
            replace Osh := Osh.mono PC.kept hb
            replace Ee110 := cellK Ee110 hb
            replace Ee111 := cellK Ee111 hb
            replace Ee112 := cellK Ee112 hb
            replace Ee140 := cellK Ee140 hb
            replace Ee141 := cellK Ee141 hb
            replace Ee142 := cellK Ee142 hb
            clear hb
            rw [← Hsg15.out]
            try go_wp2_with fail
            refine hK.out _ _ ⟨Ee110, Ee111, Ee112, Ee140, Ee141, Ee142⟩ (fun hH => ?_)
            clear hK K
            try simp only [LY]
            refine U_takeN (i := 13) (d := 102) (v := ?_) rfl rfl rfl (by kernel_rfl) (by kernel_rfl) (by kernel_rfl) (fun _ _ _ h => h) (Or.inl ⟨by rfl, ?_⟩) hH ?_
            rotate_left
            · intro w hSw
              try dsimp only at hSw
              go_simp
              try with_reducible rfl
            simp only [LY]
            refine U_takeN (i := 14) (d := 103) (v := ?_) rfl rfl rfl (by kernel_rfl) (by kernel_rfl) (by kernel_rfl) (fun _ _ _ h => h) (Or.inl ⟨by rfl, ?_⟩) hH ?_
            rotate_left
            · intro w hSw
              try dsimp only at hSw
              go_simp
              try with_reducible rfl
            simp only [LY]
            clear hH
            refine U_endN (by kernel_rfl) ?_
            clear Ee110 Ee111 Ee112 Ee140 Ee141 Ee142
            have q16 : ¬ (nthQ X k < nthQ X (k - 1)) := (HUP.out k (by omega) (by omega))
            have q16_ : ¬ (sg15 < 0) := by have h := sq_lt (nthQ X k) (nthQ X (k - 1)); rw [← Hsg15.out] at h; exact fun h1 => q16 (h.1 h1)
            have q16H := Lib.hid q16
            clear q16
            have q16d : decide (sg15 < 0) = false := decide_eq_false q16_
            go_upto_if 107 with (fail)
            clear le11 le14
            go_cut [20] (fun kv wz => kv = .int .i64 vv ∧ Below w22.heap.size w22 wz ∧ Bx wz (wr.heap.size) 48 #[.int .i64 te8, .int .i64 fe8] ∧ PV wz (.agg #[.bool ge11a, .slice ae11a ne11a ce11a, .slice Ae11a Ne11a De11a]) (nthQ X k) ∧ PV wz (.agg #[.bool ge14a, .slice ae14a ne14a ce14a, .slice Ae14a Ne14a De14a]) (nthQ X (k - 1)) ∧ OwnR w22.heap.size 26 3 PC wz u15 ((ownK O k)) ∧ OwnR w22.heap.size 26 3 PC wz u16 ((shK A k)))
            case first => as_aux_lemma =>
              by_cases q17 : k < O.length
              · have q17d : ((k : Int) < (O.length : Int)) = True := eq_true (by omega)
                try simp only [q17b, q17n]
                obtain ⟨bbe18, ooe18, cce18, hve18, Ee18, le18⟩ := rowW8_at (HO1.out.mono W8C.kept (bStep HB0_5.out hs)) (show k < O.length by omega)
                obtain ⟨rfl, rfl⟩ := sliceE hve18
                obtain ⟨ze18, Hze18⟩ : ∃ z : Int, z = nthI O k := ⟨_, rfl⟩
                rw [← Hze18] at Ee18
                have bze18 : 0 ≤ ze18 ∧ ze18 ≤ 255 := by rw [Hze18]; exact HOO.out _ (List.mem_of_getElem? (nthI_some (show k < O.length by omega)))
                obtain ⟨bze181, bze182⟩ := bze18
                replace Hze18 := Lib.hid Hze18.symm
                go_wp2_with fail
                go_meet
                exact ⟨(congrArg _ (Hze18.out.symm.trans ((othI_in (show k < O.length by omega)).symm.trans HVV.out))), hs, Blc, he11a, he14a, Oow, Osh⟩
              · have q17d : ((k : Int) < (O.length : Int)) = False := eq_false (by omega)
                try simp only [q17b, q17n]
                go_wp2_with fail
                go_meet
                exact ⟨(congrArg _ ((othI_out (show ¬ k < O.length by omega)).symm.trans HVV.out)), hs, Blc, he11a, he14a, Oow, Osh⟩
            case rest =>
              clear hs Blc he11a he14a Oow Osh
              obtain ⟨rfl, hs, Blc, he11a, he14a, Oow, Osh⟩ := hcut
              go_wp2_with fail
              with_reducible refine (l8_part (q := ownV O k) _ (by unfold ownV; rw [HVV.out]) (by omega) (by omega) (by decide) (by decide)).mono ?_
              rintro e w46 ⟨_, rfl, h17, hb⟩
              obtain ⟨sh17, ah17, nh17, ch17, Ah17, Nh17, Ch17, rfl⟩ := h17.shape
              replace hs := bStep hs hb
              replace Blc := Blc.mono hb
              replace he11a := he11a.mono hb
              replace he14a := he14a.mono hb
              replace Oow := Oow.mono PC.kept hb
              replace Osh := Osh.mono PC.kept hb
              clear hb
              go_upto_region 25 with fail
              refine Code.abs ?_
              intro w47 hW
              have hG : Gr [] w46 w47 := by rw [hW]; exact (Gr.refl _ _).alloc
              have hbw : Below w22.heap.size w46 w47 := hG.below0 hs.size
              have hk : KeepD w46 w47 := hG.keep True.intro
              have sz_w47 : w22.heap.size ≤ w46.heap.size := hs.size
              have nc_w47 : wr.heap.size < w46.heap.size := Blc.lt
              have Bly : Bx w47 (w46.heap.size) 26 #[.bool sh17, .slice ah17 nh17 ch17, .slice Ah17 Nh17 Ch17] := by rw [hW]; exact (Bx.new0 _ _ _)
              have Ap_ow_y := Oow.ap (g := w46.heap.size) (by omega)
              have Ap_sh_y := Osh.ap (g := w46.heap.size) (by omega)
              replace hs := hs.trans hbw
              replace Blc := hG.bx Blc notMem0
              replace he11a := he11a.keep hk
              replace he14a := he14a.keep hk
              replace h17 := h17.keep hk
              replace Oow := Oow.mono PC.kept (hG.below0 (Nat.le_refl _))
              replace Osh := Osh.mono PC.kept (hG.below0 (Nat.le_refl _))
              clear hW hG hk hbw
              have hz_w47 : w46.heap.size < w47.heap.size := Bly.lt
              have q18 : 0 < k := q9
              have q18d : ((0 : Int) < (k : Int)) = True := eq_true (by omega)
              have row := Oow.rows
              obtain ⟨brow, orow, krow, rfl, row1, row2, -⟩ := row.open_ (by omega)
              have BI19a : (k - 1) < (ownK O k).length := by omega
              have BI19b : ((k : Int) - 1 : Int) < ((ownK O k).length : Int) := by omega
              obtain ⟨ge20a, ae20a, ne20a, ce20a, Ae20a, Ne20a, De20a, Ee200, Ee201, Ee202, he20a, le20⟩ := rowP_at (Oow.rows) (show (k - 1) < (ownK O k).length by omega)
              obtain ⟨sg21, Hsg21⟩ : ∃ s : Int, s = sgQ ((ownV O k) - (nthQ (ownK O k) (k - 1))) := ⟨_, rfl⟩
              replace Hsg21 := Lib.hid Hsg21
              refine U_region (S := fun w' => w'.cell? ⟨w46.heap.size, 0, none⟩ = some (.bool sh17) ∧ w'.cell? ⟨w46.heap.size, 1, none⟩ = some (.slice ah17 nh17 ch17) ∧ w'.cell? ⟨w46.heap.size, 2, none⟩ = some (.slice Ah17 Nh17 Ch17) ∧ w'.cell? ⟨brow, orow + (k - 1) * 3, none⟩ = some (.bool ge20a) ∧ w'.cell? ⟨brow, orow + (k - 1) * 3 + 1, none⟩ = some (.slice ae20a ne20a ce20a) ∧ w'.cell? ⟨brow, orow + (k - 1) * 3 + 2, none⟩ = some (.slice Ae20a Ne20a De20a)) (by kernel_rfl) 12 ?_
              refine AnyU.abs ?_
              intro w48 hW
              have hb : Below w47.heap.size w47 w48 := by rw [hW]; exact bDrew _
              replace hs := bStep hs hb
              replace Blc := Blc.mono hb
              replace Bly := Bly.mono hb
              replace he11a := he11a.mono hb
              replace he14a := he14a.mono hb
              replace h17 := h17.mono hb
              replace he20a := he20a.mono hb
              replace Oow := Oow.mono PC.kept hb
              replace Osh := Osh.mono PC.kept hb
              replace Ee200 := cellK Ee200 hb
              replace Ee201 := cellK Ee201 hb
              replace Ee202 := cellK Ee202 hb
              clear hb hW
              have cy_0 : w48.cell? ⟨w46.heap.size, 0, none⟩ = some (.bool sh17) := Bly.at 0 rfl
              have cy_1 : w48.cell? ⟨w46.heap.size, 1, none⟩ = some (.slice ah17 nh17 ch17) := Bly.at 1 rfl
              have cy_2 : w48.cell? ⟨w46.heap.size, 2, none⟩ = some (.slice Ah17 Nh17 Ch17) := Bly.at 2 rfl
              have hH := (show w48.cell? ⟨w46.heap.size, 0, none⟩ = some (.bool sh17) ∧ w48.cell? ⟨w46.heap.size, 1, none⟩ = some (.slice ah17 nh17 ch17) ∧ w48.cell? ⟨w46.heap.size, 2, none⟩ = some (.slice Ah17 Nh17 Ch17) ∧ w48.cell? ⟨brow, orow + (k - 1) * 3, none⟩ = some (.bool ge20a) ∧ w48.cell? ⟨brow, orow + (k - 1) * 3 + 1, none⟩ = some (.slice ae20a ne20a ce20a) ∧ w48.cell? ⟨brow, orow + (k - 1) * 3 + 2, none⟩ = some (.slice Ae20a Ne20a De20a) from ⟨cy_0, cy_1, cy_2, Ee200, Ee201, Ee202⟩)
              refine U_takeN (i := 0) (d := 115) (v := ?_) rfl rfl rfl (by kernel_rfl) (by kernel_rfl) (by kernel_rfl) (fun _ _ _ h => h) (Or.inl ⟨by rfl, ?_⟩) hH ?_
              rotate_left
              · intro w hSw
                try dsimp only at hSw
                go_simp
                try with_reducible rfl
              simp only [LY]
              refine U_takeN (i := 1) (d := 116) (v := ?_) rfl rfl rfl (by kernel_rfl) (by kernel_rfl) (by kernel_rfl) (fun _ _ _ h => h) (Or.inl ⟨by rfl, ?_⟩) hH ?_
              rotate_left
              · intro w hSw
                try dsimp only at hSw
                go_simp
                try with_reducible rfl
              simp only [LY]
              refine U_takeN (i := 2) (d := 117) (v := ?_) rfl rfl rfl (by kernel_rfl) (by kernel_rfl) (by kernel_rfl) (fun _ _ _ h => h) (Or.inl ⟨by rfl, ?_⟩) hH ?_
              rotate_left
              · intro w hSw
                try dsimp only at hSw
                go_simp
                try with_reducible rfl
              simp only [LY]
              refine U_takeN (i := 3) (d := 118) (v := ?_) rfl rfl rfl (by kernel_rfl) (by kernel_rfl) (by kernel_rfl) (fun _ _ _ h => h) (Or.inl ⟨by rfl, ?_⟩) hH ?_
              rotate_left
              · intro w hSw
                try dsimp only at hSw
                go_simp
                try with_reducible rfl
              simp only [LY]
              refine U_takeN (i := 4) (d := 119) (v := ?_) rfl rfl rfl (by kernel_rfl) (by kernel_rfl) (by kernel_rfl) (fun _ _ _ h => h) (Or.inl ⟨by rfl, ?_⟩) hH ?_
              rotate_left
              · intro w hSw
                try dsimp only at hSw
                go_simp
                try with_reducible rfl
              simp only [LY]
              refine U_takeN (i := 5) (d := 120) (v := ?_) rfl rfl rfl (by kernel_rfl) (by kernel_rfl) (by kernel_rfl) (fun _ _ _ h => h) (Or.inl ⟨by rfl, ?_⟩) hH ?_
              rotate_left
              · intro w hSw
                try dsimp only at hSw
                go_simp
                try with_reducible rfl
              simp only [LY]
              refine U_takeN (i := 6) (d := 121) (v := ?_) rfl rfl rfl (by kernel_rfl) (by kernel_rfl) (by kernel_rfl) (fun _ _ _ h => h) (Or.inl ⟨by rfl, ?_⟩) hH ?_
              rotate_left
              · intro w hSw
                try dsimp only at hSw
                go_simp
                try with_reducible rfl
              simp only [LY]
              refine U_takeN (i := 7) (d := 122) (v := ?_) rfl rfl rfl (by kernel_rfl) (by kernel_rfl) (by kernel_rfl) (fun _ _ _ h => h) (Or.inl ⟨by rfl, ?_⟩) hH ?_
              rotate_left
              · intro w hSw
                try dsimp only at hSw
                go_simp
                try with_reducible rfl
              simp only [LY]
              refine U_takeN (i := 8) (d := 123) (v := ?_) rfl rfl rfl (by kernel_rfl) (by kernel_rfl) (by kernel_rfl) (fun _ _ _ h => h) (Or.inl ⟨by rfl, ?_⟩) hH ?_
              rotate_left
              · intro w hSw
                try dsimp only at hSw
                go_simp
                try with_reducible rfl
              simp only [LY]
              clear hH
              refine U_one (i := 9) (by kernel_rfl) rfl (fun K hK => ?_)
              go_simp
              (with_reducible refine (pCmp h17 he20a (SzQ.fit (ownV_sz HOO.out k)) (SzQ.fit (ownK_sz HOO.out k (k - 1) (by omega)))).mono ?_)
              rintro e w49 ⟨rfl, hb⟩
              replace hs := bStep hs hb
              replace Blc := Blc.mono hb
              replace Bly := Bly.mono hb
              replace he11a := he11a.mono hb
              replace he14a := he14a.mono hb
              replace h17 := h17.mono hb
              replace he20a := he20a.mono hb
              replace Oow := Oow.mono PC.kept hb
              replace Osh := Osh.mono PC.kept hb
              replace cy_0 := cellK cy_0 hb
              replace cy_1 := cellK cy_1 hb
              replace cy_2 := cellK cy_2 hb
              replace Ee200 := cellK Ee200 hb
              replace Ee201 := cellK Ee201 hb
              replace Ee202 := cellK Ee202 hb
              clear hb
              rw [← Hsg21.out]
              try go_wp2_with fail
              refine hK.out _ _ ⟨cy_0, cy_1, cy_2, Ee200, Ee201, Ee202⟩ (fun hH => ?_)
              clear hK K
              try simp only [LY]
              refine U_takeN (i := 10) (d := 125) (v := ?_) rfl rfl rfl (by kernel_rfl) (by kernel_rfl) (by kernel_rfl) (fun _ _ _ h => h) (Or.inl ⟨by rfl, ?_⟩) hH ?_
              rotate_left
              · intro w hSw
                try dsimp only at hSw
                go_simp
                try with_reducible rfl
              simp only [LY]
              refine U_takeN (i := 11) (d := 126) (v := ?_) rfl rfl rfl (by kernel_rfl) (by kernel_rfl) (by kernel_rfl) (fun _ _ _ h => h) (Or.inl ⟨by rfl, ?_⟩) hH ?_
              rotate_left
              · intro w hSw
                try dsimp only at hSw
                go_simp
                try with_reducible rfl
              simp only [LY]
              clear hH
              refine U_endN (by kernel_rfl) ?_
              clear cy_0 cy_1 cy_2 Ee200 Ee201 Ee202
              by_cases q22 : ownV O k < nthQ (ownK O k) (k - 1)
              · have q22_ : sg21 < 0 := by have h := sq_lt (ownV O k) (nthQ (ownK O k) (k - 1)); rw [← Hsg21.out] at h; exact h.2 q22
                have q22H := Lib.hid q22
                clear q22
                have q22d : decide (sg21 < 0) = true := decide_eq_true q22_
                obtain ⟨ge23a, ae23a, ne23a, ce23a, Ae23a, Ne23a, De23a, Ee230, Ee231, Ee232, he23a, le23⟩ := rowP_at (Oow.rows) (show (k - 1) < (ownK O k).length by omega)
                have cy_0 : w49.cell? ⟨w46.heap.size, 0, none⟩ = some (.bool sh17) := Bly.at 0 rfl
                have cy_1 : w49.cell? ⟨w46.heap.size, 1, none⟩ = some (.slice ah17 nh17 ch17) := Bly.at 1 rfl
                have cy_2 : w49.cell? ⟨w46.heap.size, 2, none⟩ = some (.slice Ah17 Nh17 Ch17) := Bly.at 2 rfl
                have fy := Bly.free
                have Ly : w46.heap.size < w49.heap.size := Bly.lt
                go_upto_region 27 with fail
                clear cy_0 cy_1 cy_2 fy Ly row le20 le23 Ee230 Ee231 Ee232
                refine Code.abs ?_
                intro w50 hW
                have hG : Gr [w46.heap.size] w49 w50 := by rw [hW]; exact (Gr.refl _ _).set.set.set
                have hsz := hs.size
                have ly := Bly.lt
                have hbw : Below w22.heap.size w49 w50 := hG.below1 hs.size (by first | omega | assumption)
                have hk : KeepD w49 w50 := hG.keep ⟨⟨_, Bly.ty, by decide⟩, True.intro⟩
                have Bl1y : Bx w50 (w46.heap.size) 26 #[.bool ge23a, .slice ae23a ne23a ce23a, .slice Ae23a Ne23a De23a] := by rw [hW]; exact Bly.set3
                replace hs := hs.trans hbw
                replace Blc := hG.bx Blc (notMem1 (by omega))
                replace Bly := Bl1y
                clear Bl1y
                replace he11a := he11a.keep hk
                replace he14a := he14a.keep hk
                replace h17 := h17.keep hk
                replace he20a := he20a.keep hk
                replace he23a := he23a.keep hk
                replace Oow := Oow.gr PC.kept hG (Ap_ow_y).one hk
                replace Osh := Osh.gr PC.kept hG (Ap_sh_y).one hk
                clear hW hG hk hbw hsz ly
                generalize hsv_ : Value.slice (some ⟨brow, orow, none⟩) (ownK O k).length krow = svow at *
                clear hsv_
                have cy_0 : w50.cell? ⟨w46.heap.size, 0, none⟩ = some (.bool ge23a) := Bly.at 0 rfl
                have cy_1 : w50.cell? ⟨w46.heap.size, 1, none⟩ = some (.slice ae23a ne23a ce23a) := Bly.at 1 rfl
                have cy_2 : w50.cell? ⟨w46.heap.size, 2, none⟩ = some (.slice Ae23a Ne23a De23a) := Bly.at 2 rfl
                have Ly : w46.heap.size < w50.heap.size := Bly.lt
                go_wp2_with (at_builtin; refine wpList.stop ?_)
                refine ⟨?_⟩
                clear cy_0 cy_1 cy_2 Ly
                refine wpList.abs ?_
                intro w51 hW
                have hG : Gr [] w50 w51 := by rw [hW]; exact (Gr.refl _ _).alloc
                have hbw : Below w22.heap.size w50 w51 := hG.below0 hs.size
                have hk : KeepD w50 w51 := hG.keep True.intro
                have sz_w51 : w22.heap.size ≤ w50.heap.size := hs.size
                have nc_w51 : wr.heap.size < w50.heap.size := Blc.lt
                have ny_w51 : w46.heap.size < w50.heap.size := Bly.lt
                have Blls : Bx w51 (w50.heap.size) 26 #[.bool ge23a, .slice ae23a ne23a ce23a, .slice Ae23a Ne23a De23a] := by rw [hW]; exact (Bx.new0 _ _ _)
                replace hs := hs.trans hbw
                replace Blc := hG.bx Blc notMem0
                replace Bly := hG.bx Bly notMem0
                replace he11a := he11a.keep hk
                replace he14a := he14a.keep hk
                replace h17 := h17.keep hk
                replace he20a := he20a.keep hk
                replace he23a := he23a.keep hk
                replace Oow := Oow.mono PC.kept (hG.below0 (Nat.le_refl _))
                replace Osh := Osh.mono PC.kept (hG.below0 (Nat.le_refl _))
                clear hW hG hk hbw
                have hz_w51 : w50.heap.size < w51.heap.size := Blls.lt
                obtain ⟨css, ho1, ho2, ho3, hown0⟩ := Oow
                refine wpList_append_lies _ rfl _ _ _ rfl w22.heap.size 26 q0 _ 3 56 Try.underlying41 hq hx0 hx1 hx2 rfl (by omega) _ _ css.flatten rfl hown0 ⟨w50.heap.size, 0, none⟩ 1 1 [.bool ge23a, .slice ae23a ne23a ce23a, .slice Ae23a Ne23a De23a] rfl rfl Blls.news ?_ (by omega) ?_ ?_ ?_ _ rfl ?_
                · intro u hu; simp only [List.mem_cons, List.mem_nil_iff, or_false] at hu; rcases hu with rfl | rfl | rfl <;> rfl
                · unfold maxLen; (try simp only [List.length_append, List.length_cons, List.length_nil]); omega
                · (try simp only [List.length_append, List.length_cons, List.length_nil]); omega
                · exact hs.size
                intro gow capow w52 hown1 hgrow hat hlt_
                have hk_ := KeepD.owns hown0 hgrow (by decide)
                have ho := owns_onlyT hown0 hgrow
                replace hs := hs.grown hgrow hs.size (fun k hk => (hown0.lt k hk).1)
                replace Oow := OwnR.push' PC.kept ho1 ho2 ho3 (x := nthQ (ownK O k) (k - 1)) rfl ⟨_, _, _, rfl, he23a⟩ (by simp) hown1 hk_
                replace Blc := Blc.only ho (by decide)
                have Ap_ow_y1 := Ap_ow_y.app hat Bly.lt
                replace Bly := Bly.grown hgrow Ap_ow_y.ne
                replace Ap_ow_y := Ap_ow_y1
                clear Ap_ow_y1
                replace he11a := he11a.keep hk_
                replace he14a := he14a.keep hk_
                replace h17 := h17.keep hk_
                replace he20a := he20a.keep hk_
                replace he23a := he23a.keep hk_
                have Aq1 := Aq_ow_sh.app hat Osh (Nat.le_refl _)
                replace Osh := Osh.grown PC.kept hgrow Aq_ow_sh.or hk_
                replace Aq_ow_sh := Aq1
                clear Aq1
                clear hk_ ho ho1 ho2 ho3 hown0 hown1 hgrow hat hlt_ Blls
                have cc_0 : w52.cell? ⟨wr.heap.size, 0, none⟩ = some (.int .i64 te8) := Blc.at 0 rfl
                have cc_1 : w52.cell? ⟨wr.heap.size, 1, none⟩ = some (.int .i64 fe8) := Blc.at 1 rfl
                have Lc : wr.heap.size < w52.heap.size := Blc.lt
                go_wp2_with fail
                clear cc_0 cc_1 Lc
                with_reducible refine (l8_part (n := fe8) (d := te8) _ rfl (by omega) (by omega) (by omega) (by omega)).mono ?_
                rintro e w53 ⟨_, rfl, h24, hb⟩
                obtain ⟨sh24, ah24, nh24, ch24, Ah24, Nh24, Ch24, rfl⟩ := h24.shape
                replace hs := bStep hs hb
                replace Blc := Blc.mono hb
                replace Bly := Bly.mono hb
                replace he11a := he11a.mono hb
                replace he14a := he14a.mono hb
                replace h17 := h17.mono hb
                replace he20a := he20a.mono hb
                replace he23a := he23a.mono hb
                replace Oow := Oow.mono PC.kept hb
                replace Osh := Osh.mono PC.kept hb
                clear hb
                go_upto_region 29 with fail
                refine Code.abs ?_
                intro w54 hW
                have hG : Gr [] w53 w54 := by rw [hW]; exact (Gr.refl _ _).alloc
                have hbw : Below w22.heap.size w53 w54 := hG.below0 hs.size
                have hk : KeepD w53 w54 := hG.keep True.intro
                have sz_w54 : w22.heap.size ≤ w53.heap.size := hs.size
                have nc_w54 : wr.heap.size < w53.heap.size := Blc.lt
                have ny_w54 : w46.heap.size < w53.heap.size := Bly.lt
                have Bls : Bx w54 (w53.heap.size) 26 #[.bool sh24, .slice ah24 nh24 ch24, .slice Ah24 Nh24 Ch24] := by rw [hW]; exact (Bx.new0 _ _ _)
                have Ap_ow_s := Oow.ap (g := w53.heap.size) (by omega)
                have Ap_sh_s := Osh.ap (g := w53.heap.size) (by omega)
                replace hs := hs.trans hbw
                replace Blc := hG.bx Blc notMem0
                replace Bly := hG.bx Bly notMem0
                replace he11a := he11a.keep hk
                replace he14a := he14a.keep hk
                replace h17 := h17.keep hk
                replace he20a := he20a.keep hk
                replace he23a := he23a.keep hk
                replace h24 := h24.keep hk
                replace Oow := Oow.mono PC.kept (hG.below0 (Nat.le_refl _))
                replace Osh := Osh.mono PC.kept (hG.below0 (Nat.le_refl _))
                clear hW hG hk hbw
                have hz_w54 : w53.heap.size < w54.heap.size := Bls.lt
                by_cases q25 : upT A k = true
                · obtain rfl : b6 = true := by rw [Hb6.out]; exact q25
                  have q25H := Lib.hid q25
                  clear q25
                  have q26 : ¬ (k = 0) := (by omega)
                  have q26b : ((k : Int) == 0) = false := beq_eq_false_iff_ne.2 (by omega)
                  have q26n : ((k : Int) != 0) = true := bne_iff_ne.2 (by omega)
                  have q26H := Lib.hid q26
                  clear q26
                  have rsh := Osh.rows
                  obtain ⟨brsh, orsh, krsh, rfl, rsh1, rsh2, -⟩ := rsh.open_ (by omega)
                  have BI27a : (k - 1) < (shK A k).length := by omega
                  have BI27b : ((k : Int) - 1 : Int) < ((shK A k).length : Int) := by omega
                  obtain ⟨ge28a, ae28a, ne28a, ce28a, Ae28a, Ne28a, De28a, Ee280, Ee281, Ee282, he28a, le28⟩ := rowP_at (Osh.rows) (show (k - 1) < (shK A k).length by omega)
                  obtain ⟨sg29, Hsg29⟩ : ∃ s : Int, s = sgQ ((((fe8 : Int) : Rat) / ((te8 : Int) : Rat)) - (nthQ (shK A k) (k - 1))) := ⟨_, rfl⟩
                  replace Hsg29 := Lib.hid Hsg29
                  by_cases q30 : nthQ (shK A k) (k - 1) ≤ ((fe8 : Int) : Rat) / ((te8 : Int) : Rat)
                  · have q30_ : 0 ≤ sg29 := by have h := sq_ge (((fe8 : Int) : Rat) / ((te8 : Int) : Rat)) (nthQ (shK A k) (k - 1)); rw [← Hsg29.out] at h; exact h.2 q30
                    have q30H := Lib.hid q30
                    clear q30
                    have q30d : decide (0 ≤ sg29) = true := decide_eq_true q30_
                    refine U_region (S := fun w' => w'.cell? ⟨w53.heap.size, 0, none⟩ = some (.bool sh24) ∧ w'.cell? ⟨w53.heap.size, 1, none⟩ = some (.slice ah24 nh24 ch24) ∧ w'.cell? ⟨w53.heap.size, 2, none⟩ = some (.slice Ah24 Nh24 Ch24) ∧ w'.cell? ⟨brsh, orsh + (k - 1) * 3, none⟩ = some (.bool ge28a) ∧ w'.cell? ⟨brsh, orsh + (k - 1) * 3 + 1, none⟩ = some (.slice ae28a ne28a ce28a) ∧ w'.cell? ⟨brsh, orsh + (k - 1) * 3 + 2, none⟩ = some (.slice Ae28a Ne28a De28a)) (by kernel_rfl) 16 ?_
                    refine AnyU.abs ?_
                    intro w55 hW
                    have hb : Below w54.heap.size w54 w55 := by rw [hW]; exact bDrew _
                    replace hs := bStep hs hb
                    replace Blc := Blc.mono hb
                    replace Bly := Bly.mono hb
                    replace Bls := Bls.mono hb
                    replace he11a := he11a.mono hb
                    replace he14a := he14a.mono hb
                    replace h17 := h17.mono hb
                    replace he20a := he20a.mono hb
                    replace he23a := he23a.mono hb
                    replace h24 := h24.mono hb
                    replace he28a := he28a.mono hb
                    replace Oow := Oow.mono PC.kept hb
                    replace Osh := Osh.mono PC.kept hb
                    replace Ee280 := cellK Ee280 hb
                    replace Ee281 := cellK Ee281 hb
                    replace Ee282 := cellK Ee282 hb
                    clear hb hW
                    have cs_0 : w55.cell? ⟨w53.heap.size, 0, none⟩ = some (.bool sh24) := Bls.at 0 rfl
                    have cs_1 : w55.cell? ⟨w53.heap.size, 1, none⟩ = some (.slice ah24 nh24 ch24) := Bls.at 1 rfl
                    have cs_2 : w55.cell? ⟨w53.heap.size, 2, none⟩ = some (.slice Ah24 Nh24 Ch24) := Bls.at 2 rfl
                    have hH := (show w55.cell? ⟨w53.heap.size, 0, none⟩ = some (.bool sh24) ∧ w55.cell? ⟨w53.heap.size, 1, none⟩ = some (.slice ah24 nh24 ch24) ∧ w55.cell? ⟨w53.heap.size, 2, none⟩ = some (.slice Ah24 Nh24 Ch24) ∧ w55.cell? ⟨brsh, orsh + (k - 1) * 3, none⟩ = some (.bool ge28a) ∧ w55.cell? ⟨brsh, orsh + (k - 1) * 3 + 1, none⟩ = some (.slice ae28a ne28a ce28a) ∧ w55.cell? ⟨brsh, orsh + (k - 1) * 3 + 2, none⟩ = some (.slice Ae28a Ne28a De28a) from ⟨cs_0, cs_1, cs_2, Ee280, Ee281, Ee282⟩)
                    refine U_takeN (i := 0) (d := 141) (v := ?_) rfl rfl rfl (by kernel_rfl) (by kernel_rfl) (by kernel_rfl) (fun _ _ _ h => h) (Or.inl ⟨by rfl, ?_⟩) hH ?_
                    rotate_left
                    · intro w hSw
                      try dsimp only at hSw
                      go_simp
                      try with_reducible rfl
                    simp only [LY]
                    refine U_takeN (i := 1) (d := 142) (v := ?_) rfl rfl rfl (by kernel_rfl) (by kernel_rfl) (by kernel_rfl) (fun _ _ _ h => h) (Or.inl ⟨by rfl, ?_⟩) hH ?_
                    rotate_left
                    · intro w hSw
                      try dsimp only at hSw
                      go_simp
                      try with_reducible rfl
                    simp only [LY]
                    refine U_takeN (i := 2) (d := 143) (v := ?_) rfl rfl rfl (by kernel_rfl) (by kernel_rfl) (by kernel_rfl) (fun _ _ _ h => h) (Or.inl ⟨by rfl, ?_⟩) hH ?_
                    rotate_left
                    · intro w hSw
                      try dsimp only at hSw
                      go_simp
                      try with_reducible rfl
                    simp only [LY]
                    refine U_takeN (i := 3) (d := 144) (v := ?_) rfl rfl rfl (by kernel_rfl) (by kernel_rfl) (by kernel_rfl) (fun _ _ _ h => h) (Or.inl ⟨by rfl, ?_⟩) hH ?_
                    rotate_left
                    · intro w hSw
                      try dsimp only at hSw
                      go_simp
                      try with_reducible rfl
                    simp only [LY]
                    refine U_takeN (i := 4) (d := 145) (v := ?_) rfl rfl rfl (by kernel_rfl) (by kernel_rfl) (by kernel_rfl) (fun _ _ _ h => h) (Or.inl ⟨by rfl, ?_⟩) hH ?_
                    rotate_left
                    · intro w hSw
                      try dsimp only at hSw
                      go_simp
                      try with_reducible rfl
                    simp only [LY]
                    refine U_takeN (i := 5) (d := 146) (v := ?_) rfl rfl rfl (by kernel_rfl) (by kernel_rfl) (by kernel_rfl) (fun _ _ _ h => h) (Or.inl ⟨by rfl, ?_⟩) hH ?_
                    rotate_left
                    · intro w hSw
                      try dsimp only at hSw
                      go_simp
                      try with_reducible rfl
                    simp only [LY]
                    refine U_takeN (i := 6) (d := 147) (v := ?_) rfl rfl rfl (by kernel_rfl) (by kernel_rfl) (by kernel_rfl) (fun _ _ _ h => h) (Or.inl ⟨by rfl, ?_⟩) hH ?_
                    rotate_left
                    · intro w hSw
                      try dsimp only at hSw
                      go_simp
                      try with_reducible rfl
                    simp only [LY]
                    refine U_takeN (i := 7) (d := 148) (v := ?_) rfl rfl rfl (by kernel_rfl) (by kernel_rfl) (by kernel_rfl) (fun _ _ _ h => h) (Or.inl ⟨by rfl, ?_⟩) hH ?_
                    rotate_left
                    · intro w hSw
                      try dsimp only at hSw
                      go_simp
                      try with_reducible rfl
                    simp only [LY]
                    refine U_takeN (i := 8) (d := 149) (v := ?_) rfl rfl rfl (by kernel_rfl) (by kernel_rfl) (by kernel_rfl) (fun _ _ _ h => h) (Or.inl ⟨by rfl, ?_⟩) hH ?_
                    rotate_left
                    · intro w hSw
                      try dsimp only at hSw
                      go_simp
                      try with_reducible rfl
                    simp only [LY]
                    refine U_takeN (i := 9) (d := 150) (v := ?_) rfl rfl rfl (by kernel_rfl) (by kernel_rfl) (by kernel_rfl) (fun _ _ _ h => h) (Or.inl ⟨by rfl, ?_⟩) hH ?_
                    rotate_left
                    · intro w hSw
                      try dsimp only at hSw
                      go_simp
                      try with_reducible rfl
                    simp only [LY]
                    refine U_takeN (i := 10) (d := 151) (v := ?_) rfl rfl rfl (by kernel_rfl) (by kernel_rfl) (by kernel_rfl) (fun _ _ _ h => h) (Or.inl ⟨by rfl, ?_⟩) hH ?_
                    rotate_left
                    · intro w hSw
                      try dsimp only at hSw
                      go_simp
                      try with_reducible rfl
                    simp only [LY]
                    clear hH
                    refine U_one (i := 11) (by kernel_rfl) rfl (fun K hK => ?_)
                    go_simp
                    (with_reducible refine (pCmp h24 he28a (SzQ.fit (szQ_frac (by omega) (by omega) (by omega))) (SzQ.fit (shK_sz HOK.out (show k ≤ A.length by omega) (k - 1) (by omega)))).mono ?_)
                    rintro e w56 ⟨rfl, hb⟩
                    replace hs := bStep hs hb
                    replace Blc := Blc.mono hb
                    replace Bly := Bly.mono hb
                    replace Bls := Bls.mono hb
                    replace he11a := he11a.mono hb
                    replace he14a := he14a.mono hb
                    replace h17 := h17.mono hb
                    replace he20a := he20a.mono hb
                    replace he23a := he23a.mono hb
                    replace h24 := h24.mono hb
                    replace he28a := he28a.mono hb
                    replace Oow := Oow.mono PC.kept hb
                    replace Osh := Osh.mono PC.kept hb
                    replace cs_0 := cellK cs_0 hb
                    replace cs_1 := cellK cs_1 hb
                    replace cs_2 := cellK cs_2 hb
                    replace Ee280 := cellK Ee280 hb
                    replace Ee281 := cellK Ee281 hb
                    replace Ee282 := cellK Ee282 hb
                    clear hb
                    rw [← Hsg29.out]
                    try go_wp2_with fail
                    refine hK.out _ _ ⟨cs_0, cs_1, cs_2, Ee280, Ee281, Ee282⟩ (fun hH => ?_)
                    clear hK K
                    try simp only [LY]
                    refine U_takeN (i := 12) (d := 153) (v := ?_) rfl rfl rfl (by kernel_rfl) (by kernel_rfl) (by kernel_rfl) (fun _ _ _ h => h) (Or.inl ⟨by rfl, ?_⟩) hH ?_
                    rotate_left
                    · intro w hSw
                      try dsimp only at hSw
                      go_simp
                      try with_reducible rfl
                    simp only [LY]
                    refine U_takeN (i := 13) (d := 154) (v := ?_) rfl rfl rfl (by kernel_rfl) (by kernel_rfl) (by kernel_rfl) (fun _ _ _ h => h) (Or.inl ⟨by rfl, ?_⟩) hH ?_
                    rotate_left
                    · intro w hSw
                      try dsimp only at hSw
                      go_simp
                      try with_reducible rfl
                    simp only [LY]
                    refine U_takeN (i := 14) (d := 155) (v := ?_) rfl rfl rfl (by kernel_rfl) (by kernel_rfl) (by kernel_rfl) (fun _ _ _ h => h) (Or.inl ⟨by rfl, ?_⟩) hH ?_
                    rotate_left
                    · intro w hSw
                      try dsimp only at hSw
                      go_simp
                      try with_reducible rfl
                    simp only [LY]
                    refine U_takeN (i := 15) (d := 17) (v := ?_) rfl rfl rfl (by kernel_rfl) (by kernel_rfl) (by kernel_rfl) (fun _ _ _ h => h) (Or.inl ⟨by rfl, ?_⟩) hH ?_
                    rotate_left
                    · intro w hSw
                      try dsimp only at hSw
                      go_simp
                      try with_reducible rfl
                    simp only [LY]
                    clear hH
                    refine U_endN (by kernel_rfl) ?_
                    clear cs_0 cs_1 cs_2 Ee280 Ee281 Ee282
                    go_upto_region 30 with fail
                    clear rsh le28
                    generalize hsv_ : Value.slice (some ⟨brsh, orsh, none⟩) (shK A k).length krsh = svsh at *
                    clear hsv_
                    have cs_0 : w56.cell? ⟨w53.heap.size, 0, none⟩ = some (.bool sh24) := Bls.at 0 rfl
                    have cs_1 : w56.cell? ⟨w53.heap.size, 1, none⟩ = some (.slice ah24 nh24 ch24) := Bls.at 1 rfl
                    have cs_2 : w56.cell? ⟨w53.heap.size, 2, none⟩ = some (.slice Ah24 Nh24 Ch24) := Bls.at 2 rfl
                    have Ls : w53.heap.size < w56.heap.size := Bls.lt
                    go_wp2_with (at_builtin; refine wpList.stop ?_)
                    refine ⟨?_⟩
                    clear cs_0 cs_1 cs_2 Ls
                    refine wpList.abs ?_
                    intro w57 hW
                    have hG : Gr [] w56 w57 := by rw [hW]; exact (Gr.refl _ _).alloc
                    have hbw : Below w22.heap.size w56 w57 := hG.below0 hs.size
                    have hk : KeepD w56 w57 := hG.keep True.intro
                    have sz_w57 : w22.heap.size ≤ w56.heap.size := hs.size
                    have nc_w57 : wr.heap.size < w56.heap.size := Blc.lt
                    have ny_w57 : w46.heap.size < w56.heap.size := Bly.lt
                    have ns_w57 : w53.heap.size < w56.heap.size := Bls.lt
                    have Blls4 : Bx w57 (w56.heap.size) 26 #[.bool sh24, .slice ah24 nh24 ch24, .slice Ah24 Nh24 Ch24] := by rw [hW]; exact (Bx.new0 _ _ _)
                    replace hs := hs.trans hbw
                    replace Blc := hG.bx Blc notMem0
                    replace Bly := hG.bx Bly notMem0
                    replace Bls := hG.bx Bls notMem0
                    replace he11a := he11a.keep hk
                    replace he14a := he14a.keep hk
                    replace h17 := h17.keep hk
                    replace he20a := he20a.keep hk
                    replace he23a := he23a.keep hk
                    replace h24 := h24.keep hk
                    replace he28a := he28a.keep hk
                    replace Oow := Oow.mono PC.kept (hG.below0 (Nat.le_refl _))
                    replace Osh := Osh.mono PC.kept (hG.below0 (Nat.le_refl _))
                    clear hW hG hk hbw
                    have hz_w57 : w56.heap.size < w57.heap.size := Blls4.lt
                    obtain ⟨css, ho1, ho2, ho3, hown0⟩ := Osh
                    refine wpList_append_lies _ rfl _ _ _ rfl w22.heap.size 26 q0 _ 3 56 Try.underlying41 hq hx0 hx1 hx2 rfl (by omega) _ _ css.flatten rfl hown0 ⟨w56.heap.size, 0, none⟩ 1 1 [.bool sh24, .slice ah24 nh24 ch24, .slice Ah24 Nh24 Ch24] rfl rfl Blls4.news ?_ (by omega) ?_ ?_ ?_ _ rfl ?_
                    · intro u hu; simp only [List.mem_cons, List.mem_nil_iff, or_false] at hu; rcases hu with rfl | rfl | rfl <;> rfl
                    · unfold maxLen; (try simp only [List.length_append, List.length_cons, List.length_nil]); omega
                    · (try simp only [List.length_append, List.length_cons, List.length_nil]); omega
                    · exact hs.size
                    intro gsh capsh w58 hown1 hgrow hat hlt_
                    have hk_ := KeepD.owns hown0 hgrow (by decide)
                    have ho := owns_onlyT hown0 hgrow
                    replace hs := hs.grown hgrow hs.size (fun k hk => (hown0.lt k hk).1)
                    replace Osh := OwnR.push' PC.kept ho1 ho2 ho3 (x := ((fe8 : Int) : Rat) / ((te8 : Int) : Rat)) rfl ⟨_, _, _, rfl, h24⟩ (by simp) hown1 hk_
                    replace Blc := Blc.only ho (by decide)
                    have Ap_sh_y1 := Ap_sh_y.app hat Bly.lt
                    replace Bly := Bly.grown hgrow Ap_sh_y.ne
                    replace Ap_sh_y := Ap_sh_y1
                    clear Ap_sh_y1
                    have Ap_sh_s1 := Ap_sh_s.app hat Bls.lt
                    replace Bls := Bls.grown hgrow Ap_sh_s.ne
                    replace Ap_sh_s := Ap_sh_s1
                    clear Ap_sh_s1
                    replace he11a := he11a.keep hk_
                    replace he14a := he14a.keep hk_
                    replace h17 := h17.keep hk_
                    replace he20a := he20a.keep hk_
                    replace he23a := he23a.keep hk_
                    replace h24 := h24.keep hk_
                    replace he28a := he28a.keep hk_
                    have Aq1 := (Aq_ow_sh.symm.app hat Oow (Nat.le_refl _)).symm
                    replace Oow := Oow.grown PC.kept hgrow Aq_ow_sh.symm.or hk_
                    replace Aq_ow_sh := Aq1
                    clear Aq1
                    clear hk_ ho ho1 ho2 ho3 hown0 hown1 hgrow hat hlt_ Blls4
                    go_wp2
                    go_roundw
                    case rel => exact ⟨k + 1, by omega, by go_num, (congrArg _ (upT_yes Hte8.out Hfe8.out q25H.out (show 0 < k by omega) (Rat.not_lt.2 q30H.out)).symm), hs, by rw [ownK_kept (show 0 < k by omega) q22H.out]; exact Oow, by rw [shK_next Hte8.out Hfe8.out]; exact Osh, Aq_ow_sh⟩
                    all_goals first | (simp [intOf]; done) | (simp [intOf]; omega)
                  · have q30_ : ¬ (0 ≤ sg29) := by have h := sq_ge (((fe8 : Int) : Rat) / ((te8 : Int) : Rat)) (nthQ (shK A k) (k - 1)); rw [← Hsg29.out] at h; exact fun h1 => q30 (h.1 h1)
                    have q30H := Lib.hid q30
                    clear q30
                    have q30d : decide (0 ≤ sg29) = false := decide_eq_false q30_
                    refine U_region (S := fun w' => w'.cell? ⟨w53.heap.size, 0, none⟩ = some (.bool sh24) ∧ w'.cell? ⟨w53.heap.size, 1, none⟩ = some (.slice ah24 nh24 ch24) ∧ w'.cell? ⟨w53.heap.size, 2, none⟩ = some (.slice Ah24 Nh24 Ch24) ∧ w'.cell? ⟨brsh, orsh + (k - 1) * 3, none⟩ = some (.bool ge28a) ∧ w'.cell? ⟨brsh, orsh + (k - 1) * 3 + 1, none⟩ = some (.slice ae28a ne28a ce28a) ∧ w'.cell? ⟨brsh, orsh + (k - 1) * 3 + 2, none⟩ = some (.slice Ae28a Ne28a De28a)) (by kernel_rfl) 16 ?_
                    refine AnyU.abs ?_
                    intro w55 hW
                    have hb : Below w54.heap.size w54 w55 := by rw [hW]; exact bDrew _
                    replace hs := bStep hs hb
                    replace Blc := Blc.mono hb
                    replace Bly := Bly.mono hb
                    replace Bls := Bls.mono hb
                    replace he11a := he11a.mono hb
                    replace he14a := he14a.mono hb
                    replace h17 := h17.mono hb
                    replace he20a := he20a.mono hb
                    replace he23a := he23a.mono hb
                    replace h24 := h24.mono hb
                    replace he28a := he28a.mono hb
                    replace Oow := Oow.mono PC.kept hb
                    replace Osh := Osh.mono PC.kept hb
                    replace Ee280 := cellK Ee280 hb
                    replace Ee281 := cellK Ee281 hb
                    replace Ee282 := cellK Ee282 hb
                    clear hb hW
                    have cs_0 : w55.cell? ⟨w53.heap.size, 0, none⟩ = some (.bool sh24) := Bls.at 0 rfl
                    have cs_1 : w55.cell? ⟨w53.heap.size, 1, none⟩ = some (.slice ah24 nh24 ch24) := Bls.at 1 rfl
                    have cs_2 : w55.cell? ⟨w53.heap.size, 2, none⟩ = some (.slice Ah24 Nh24 Ch24) := Bls.at 2 rfl
                    have hH := (show w55.cell? ⟨w53.heap.size, 0, none⟩ = some (.bool sh24) ∧ w55.cell? ⟨w53.heap.size, 1, none⟩ = some (.slice ah24 nh24 ch24) ∧ w55.cell? ⟨w53.heap.size, 2, none⟩ = some (.slice Ah24 Nh24 Ch24) ∧ w55.cell? ⟨brsh, orsh + (k - 1) * 3, none⟩ = some (.bool ge28a) ∧ w55.cell? ⟨brsh, orsh + (k - 1) * 3 + 1, none⟩ = some (.slice ae28a ne28a ce28a) ∧ w55.cell? ⟨brsh, orsh + (k - 1) * 3 + 2, none⟩ = some (.slice Ae28a Ne28a De28a) from ⟨cs_0, cs_1, cs_2, Ee280, Ee281, Ee282⟩)
                    refine U_takeN (i := 0) (d := 141) (v := ?_) rfl rfl rfl (by kernel_rfl) (by kernel_rfl) (by kernel_rfl) (fun _ _ _ h => h) (Or.inl ⟨by rfl, ?_⟩) hH ?_
                    rotate_left
                    · intro w hSw
                      try dsimp only at hSw
                      go_simp
                      try with_reducible rfl
                    simp only [LY]
                    refine U_takeN (i := 1) (d := 142) (v := ?_) rfl rfl rfl (by kernel_rfl) (by kernel_rfl) (by kernel_rfl) (fun _ _ _ h => h) (Or.inl ⟨by rfl, ?_⟩) hH ?_
                    rotate_left
                    · intro w hSw
                      try dsimp only at hSw
                      go_simp
                      try with_reducible rfl
                    simp only [LY]
                    refine U_takeN (i := 2) (d := 143) (v := ?_) rfl rfl rfl (by kernel_rfl) (by kernel_rfl) (by kernel_rfl) (fun _ _ _ h => h) (Or.inl ⟨by rfl, ?_⟩) hH ?_
                    rotate_left
                    · intro w hSw
                      try dsimp only at hSw
                      go_simp
                      try with_reducible rfl
                    simp only [LY]
                    refine U_takeN (i := 3) (d := 144) (v := ?_) rfl rfl rfl (by kernel_rfl) (by kernel_rfl) (by kernel_rfl) (fun _ _ _ h => h) (Or.inl ⟨by rfl, ?_⟩) hH ?_
                    rotate_left
                    · intro w hSw
                      try dsimp only at hSw
                      go_simp
                      try with_reducible rfl
                    simp only [LY]
                    refine U_takeN (i := 4) (d := 145) (v := ?_) rfl rfl rfl (by kernel_rfl) (by kernel_rfl) (by kernel_rfl) (fun _ _ _ h => h) (Or.inl ⟨by rfl, ?_⟩) hH ?_
                    rotate_left
                    · intro w hSw
                      try dsimp only at hSw
                      go_simp
                      try with_reducible rfl
                    simp only [LY]
                    refine U_takeN (i := 5) (d := 146) (v := ?_) rfl rfl rfl (by kernel_rfl) (by kernel_rfl) (by kernel_rfl) (fun _ _ _ h => h) (Or.inl ⟨by rfl, ?_⟩) hH ?_
                    rotate_left
                    · intro w hSw
                      try dsimp only at hSw
                      go_simp
                      try with_reducible rfl
                    simp only [LY]
                    refine U_takeN (i := 6) (d := 147) (v := ?_) rfl rfl rfl (by kernel_rfl) (by kernel_rfl) (by kernel_rfl) (fun _ _ _ h => h) (Or.inl ⟨by rfl, ?_⟩) hH ?_
                    rotate_left
                    · intro w hSw
                      try dsimp only at hSw
                      go_simp
                      try with_reducible rfl
                    simp only [LY]
                    refine U_takeN (i := 7) (d := 148) (v := ?_) rfl rfl rfl (by kernel_rfl) (by kernel_rfl) (by kernel_rfl) (fun _ _ _ h => h) (Or.inl ⟨by rfl, ?_⟩) hH ?_
                    rotate_left
                    · intro w hSw
                      try dsimp only at hSw
                      go_simp
                      try with_reducible rfl
                    simp only [LY]
                    refine U_takeN (i := 8) (d := 149) (v := ?_) rfl rfl rfl (by kernel_rfl) (by kernel_rfl) (by kernel_rfl) (fun _ _ _ h => h) (Or.inl ⟨by rfl, ?_⟩) hH ?_
                    rotate_left
                    · intro w hSw
                      try dsimp only at hSw
                      go_simp
                      try with_reducible rfl
                    simp only [LY]
                    refine U_takeN (i := 9) (d := 150) (v := ?_) rfl rfl rfl (by kernel_rfl) (by kernel_rfl) (by kernel_rfl) (fun _ _ _ h => h) (Or.inl ⟨by rfl, ?_⟩) hH ?_
                    rotate_left
                    · intro w hSw
                      try dsimp only at hSw
                      go_simp
                      try with_reducible rfl
                    simp only [LY]
                    refine U_takeN (i := 10) (d := 151) (v := ?_) rfl rfl rfl (by kernel_rfl) (by kernel_rfl) (by kernel_rfl) (fun _ _ _ h => h) (Or.inl ⟨by rfl, ?_⟩) hH ?_
                    rotate_left
                    · intro w hSw
                      try dsimp only at hSw
                      go_simp
                      try with_reducible rfl
                    simp only [LY]
                    clear hH
                    refine U_one (i := 11) (by kernel_rfl) rfl (fun K hK => ?_)
                    go_simp
                    (with_reducible refine (pCmp h24 he28a (SzQ.fit (szQ_frac (by omega) (by omega) (by omega))) (SzQ.fit (shK_sz HOK.out (show k ≤ A.length by omega) (k - 1) (by omega)))).mono ?_)
                    rintro e w56 ⟨rfl, hb⟩
                    replace hs := bStep hs hb
                    replace Blc := Blc.mono hb
                    replace Bly := Bly.mono hb
                    replace Bls := Bls.mono hb
                    replace he11a := he11a.mono hb
                    replace he14a := he14a.mono hb
                    replace h17 := h17.mono hb
                    replace he20a := he20a.mono hb
                    replace he23a := he23a.mono hb
                    replace h24 := h24.mono hb
                    replace he28a := he28a.mono hb
                    replace Oow := Oow.mono PC.kept hb
                    replace Osh := Osh.mono PC.kept hb
                    replace cs_0 := cellK cs_0 hb
                    replace cs_1 := cellK cs_1 hb
                    replace cs_2 := cellK cs_2 hb
                    replace Ee280 := cellK Ee280 hb
                    replace Ee281 := cellK Ee281 hb
                    replace Ee282 := cellK Ee282 hb
                    clear hb
                    rw [← Hsg29.out]
                    try go_wp2_with fail
                    refine hK.out _ _ ⟨cs_0, cs_1, cs_2, Ee280, Ee281, Ee282⟩ (fun hH => ?_)
                    clear hK K
                    try simp only [LY]
                    refine U_takeN (i := 12) (d := 153) (v := ?_) rfl rfl rfl (by kernel_rfl) (by kernel_rfl) (by kernel_rfl) (fun _ _ _ h => h) (Or.inl ⟨by rfl, ?_⟩) hH ?_
                    rotate_left
                    · intro w hSw
                      try dsimp only at hSw
                      go_simp
                      try with_reducible rfl
                    simp only [LY]
                    refine U_takeN (i := 13) (d := 154) (v := ?_) rfl rfl rfl (by kernel_rfl) (by kernel_rfl) (by kernel_rfl) (fun _ _ _ h => h) (Or.inl ⟨by rfl, ?_⟩) hH ?_
                    rotate_left
                    · intro w hSw
                      try dsimp only at hSw
                      go_simp
                      try with_reducible rfl
                    simp only [LY]
                    refine U_takeN (i := 14) (d := 155) (v := ?_) rfl rfl rfl (by kernel_rfl) (by kernel_rfl) (by kernel_rfl) (fun _ _ _ h => h) (Or.inl ⟨by rfl, ?_⟩) hH ?_
                    rotate_left
                    · intro w hSw
                      try dsimp only at hSw
                      go_simp
                      try with_reducible rfl
                    simp only [LY]
                    refine U_takeN (i := 15) (d := 17) (v := ?_) rfl rfl rfl (by kernel_rfl) (by kernel_rfl) (by kernel_rfl) (fun _ _ _ h => h) (Or.inl ⟨by rfl, ?_⟩) hH ?_
                    rotate_left
                    · intro w hSw
                      try dsimp only at hSw
                      go_simp
                      try with_reducible rfl
                    simp only [LY]
                    clear hH
                    refine U_endN (by kernel_rfl) ?_
                    clear cs_0 cs_1 cs_2 Ee280 Ee281 Ee282
                    go_upto_region 30 with fail
                    clear rsh le28
                    generalize hsv_ : Value.slice (some ⟨brsh, orsh, none⟩) (shK A k).length krsh = svsh at *
                    clear hsv_
                    have cs_0 : w56.cell? ⟨w53.heap.size, 0, none⟩ = some (.bool sh24) := Bls.at 0 rfl
                    have cs_1 : w56.cell? ⟨w53.heap.size, 1, none⟩ = some (.slice ah24 nh24 ch24) := Bls.at 1 rfl
                    have cs_2 : w56.cell? ⟨w53.heap.size, 2, none⟩ = some (.slice Ah24 Nh24 Ch24) := Bls.at 2 rfl
                    have Ls : w53.heap.size < w56.heap.size := Bls.lt
                    go_wp2_with (at_builtin; refine wpList.stop ?_)
                    refine ⟨?_⟩
                    clear cs_0 cs_1 cs_2 Ls
                    refine wpList.abs ?_
                    intro w57 hW
                    have hG : Gr [] w56 w57 := by rw [hW]; exact (Gr.refl _ _).alloc
                    have hbw : Below w22.heap.size w56 w57 := hG.below0 hs.size
                    have hk : KeepD w56 w57 := hG.keep True.intro
                    have sz_w57 : w22.heap.size ≤ w56.heap.size := hs.size
                    have nc_w57 : wr.heap.size < w56.heap.size := Blc.lt
                    have ny_w57 : w46.heap.size < w56.heap.size := Bly.lt
                    have ns_w57 : w53.heap.size < w56.heap.size := Bls.lt
                    have Blls4 : Bx w57 (w56.heap.size) 26 #[.bool sh24, .slice ah24 nh24 ch24, .slice Ah24 Nh24 Ch24] := by rw [hW]; exact (Bx.new0 _ _ _)
                    replace hs := hs.trans hbw
                    replace Blc := hG.bx Blc notMem0
                    replace Bly := hG.bx Bly notMem0
                    replace Bls := hG.bx Bls notMem0
                    replace he11a := he11a.keep hk
                    replace he14a := he14a.keep hk
                    replace h17 := h17.keep hk
                    replace he20a := he20a.keep hk
                    replace he23a := he23a.keep hk
                    replace h24 := h24.keep hk
                    replace he28a := he28a.keep hk
                    replace Oow := Oow.mono PC.kept (hG.below0 (Nat.le_refl _))
                    replace Osh := Osh.mono PC.kept (hG.below0 (Nat.le_refl _))
                    clear hW hG hk hbw
                    have hz_w57 : w56.heap.size < w57.heap.size := Blls4.lt
                    obtain ⟨css, ho1, ho2, ho3, hown0⟩ := Osh
                    refine wpList_append_lies _ rfl _ _ _ rfl w22.heap.size 26 q0 _ 3 56 Try.underlying41 hq hx0 hx1 hx2 rfl (by omega) _ _ css.flatten rfl hown0 ⟨w56.heap.size, 0, none⟩ 1 1 [.bool sh24, .slice ah24 nh24 ch24, .slice Ah24 Nh24 Ch24] rfl rfl Blls4.news ?_ (by omega) ?_ ?_ ?_ _ rfl ?_
                    · intro u hu; simp only [List.mem_cons, List.mem_nil_iff, or_false] at hu; rcases hu with rfl | rfl | rfl <;> rfl
                    · unfold maxLen; (try simp only [List.length_append, List.length_cons, List.length_nil]); omega
                    · (try simp only [List.length_append, List.length_cons, List.length_nil]); omega
                    · exact hs.size
                    intro gsh capsh w58 hown1 hgrow hat hlt_
                    have hk_ := KeepD.owns hown0 hgrow (by decide)
                    have ho := owns_onlyT hown0 hgrow
                    replace hs := hs.grown hgrow hs.size (fun k hk => (hown0.lt k hk).1)
                    replace Osh := OwnR.push' PC.kept ho1 ho2 ho3 (x := ((fe8 : Int) : Rat) / ((te8 : Int) : Rat)) rfl ⟨_, _, _, rfl, h24⟩ (by simp) hown1 hk_
                    replace Blc := Blc.only ho (by decide)
                    have Ap_sh_y1 := Ap_sh_y.app hat Bly.lt
                    replace Bly := Bly.grown hgrow Ap_sh_y.ne
                    replace Ap_sh_y := Ap_sh_y1
                    clear Ap_sh_y1
                    have Ap_sh_s1 := Ap_sh_s.app hat Bls.lt
                    replace Bls := Bls.grown hgrow Ap_sh_s.ne
                    replace Ap_sh_s := Ap_sh_s1
                    clear Ap_sh_s1
                    replace he11a := he11a.keep hk_
                    replace he14a := he14a.keep hk_
                    replace h17 := h17.keep hk_
                    replace he20a := he20a.keep hk_
                    replace he23a := he23a.keep hk_
                    replace h24 := h24.keep hk_
                    replace he28a := he28a.keep hk_
                    have Aq1 := (Aq_ow_sh.symm.app hat Oow (Nat.le_refl _)).symm
                    replace Oow := Oow.grown PC.kept hgrow Aq_ow_sh.symm.or hk_
                    replace Aq_ow_sh := Aq1
                    clear Aq1
                    clear hk_ ho ho1 ho2 ho3 hown0 hown1 hgrow hat hlt_ Blls4
                    go_wp2
                    go_roundw
                    case rel => exact ⟨k + 1, by omega, by go_num, (congrArg _ (upT_fall Hte8.out Hfe8.out (show 0 < k by omega) (Rat.not_le.1 q30H.out)).symm), hs, by rw [ownK_kept (show 0 < k by omega) q22H.out]; exact Oow, by rw [shK_next Hte8.out Hfe8.out]; exact Osh, Aq_ow_sh⟩
                    all_goals first | (simp [intOf]; done) | (simp [intOf]; omega)
                · obtain rfl : b6 = false := by rw [Hb6.out]; simpa using q25
                  have q25H := Lib.hid q25
                  clear q25
                  refine U_region (S := fun w' => True) (by kernel_rfl) 16 ?_
                  refine AnyU.abs ?_
                  intro w55 hW
                  have hb : Below w54.heap.size w54 w55 := by rw [hW]; exact bDrew _
                  replace hs := bStep hs hb
                  replace Blc := Blc.mono hb
                  replace Bly := Bly.mono hb
                  replace Bls := Bls.mono hb
                  replace he11a := he11a.mono hb
                  replace he14a := he14a.mono hb
                  replace h17 := h17.mono hb
                  replace he20a := he20a.mono hb
                  replace he23a := he23a.mono hb
                  replace h24 := h24.mono hb
                  replace Oow := Oow.mono PC.kept hb
                  replace Osh := Osh.mono PC.kept hb
                  clear hb hW
                  have hH := (show True from True.intro)
                  refine U_takeN (i := 0) (d := 141) (v := ?_) rfl rfl rfl (by kernel_rfl) (by kernel_rfl) (by kernel_rfl) (fun _ _ _ h => h) (Or.inl ⟨by rfl, ?_⟩) hH ?_
                  rotate_left
                  · intro w hSw
                    try dsimp only at hSw
                    go_simp
                    try with_reducible rfl
                  simp only [LY]
                  refine U_takeN (i := 1) (d := 142) (v := ?_) rfl rfl rfl (by kernel_rfl) (by kernel_rfl) (by kernel_rfl) (fun _ _ _ h => h) (Or.inl ⟨by rfl, ?_⟩) hH ?_
                  rotate_left
                  · intro w hSw
                    try dsimp only at hSw
                    go_simp
                    try with_reducible rfl
                  simp only [LY]
                  refine U_takeN (i := 2) (d := 143) (v := undef) rfl rfl rfl (by kernel_rfl) (by kernel_rfl) (by kernel_rfl) (fun _ _ _ h => h) (Or.inr ⟨by rfl, rfl⟩) hH ?_
                  simp only [LY]
                  refine U_takeN (i := 3) (d := 144) (v := undef) rfl rfl rfl (by kernel_rfl) (by kernel_rfl) (by kernel_rfl) (fun _ _ _ h => h) (Or.inr ⟨by rfl, rfl⟩) hH ?_
                  simp only [LY]
                  refine U_takeN (i := 4) (d := 145) (v := undef) rfl rfl rfl (by kernel_rfl) (by kernel_rfl) (by kernel_rfl) (fun _ _ _ h => h) (Or.inr ⟨by rfl, rfl⟩) hH ?_
                  simp only [LY]
                  refine U_takeN (i := 5) (d := 146) (v := undef) rfl rfl rfl (by kernel_rfl) (by kernel_rfl) (by kernel_rfl) (fun _ _ _ h => h) (Or.inr ⟨by rfl, rfl⟩) hH ?_
                  simp only [LY]
                  refine U_takeN (i := 6) (d := 147) (v := undef) rfl rfl rfl (by kernel_rfl) (by kernel_rfl) (by kernel_rfl) (fun _ _ _ h => h) (Or.inr ⟨by rfl, rfl⟩) hH ?_
                  simp only [LY]
                  refine U_takeN (i := 7) (d := 148) (v := undef) rfl rfl rfl (by kernel_rfl) (by kernel_rfl) (by kernel_rfl) (fun _ _ _ h => h) (Or.inr ⟨by rfl, rfl⟩) hH ?_
                  simp only [LY]
                  refine U_takeN (i := 8) (d := 149) (v := undef) rfl rfl rfl (by kernel_rfl) (by kernel_rfl) (by kernel_rfl) (fun _ _ _ h => h) (Or.inr ⟨by rfl, rfl⟩) hH ?_
                  simp only [LY]
                  refine U_takeN (i := 9) (d := 150) (v := undef) rfl rfl rfl (by kernel_rfl) (by kernel_rfl) (by kernel_rfl) (fun _ _ _ h => h) (Or.inr ⟨by rfl, rfl⟩) hH ?_
                  simp only [LY]
                  refine U_takeN (i := 10) (d := 151) (v := undef) rfl rfl rfl (by kernel_rfl) (by kernel_rfl) (by kernel_rfl) (fun _ _ _ h => h) (Or.inr ⟨by rfl, rfl⟩) hH ?_
                  simp only [LY]
                  clear hH
                  refine U_one (i := 11) (by kernel_rfl) rfl (fun K hK => ?_)
                  go_simp
                  refine hK.out _ _ True.intro (fun hH => ?_)
                  clear hK K
                  try simp only [LY]
                  refine U_takeN (i := 12) (d := 153) (v := undef) rfl rfl rfl (by kernel_rfl) (by kernel_rfl) (by kernel_rfl) (fun _ _ _ h => h) (Or.inr ⟨by rfl, rfl⟩) hH ?_
                  simp only [LY]
                  refine U_takeN (i := 13) (d := 154) (v := undef) rfl rfl rfl (by kernel_rfl) (by kernel_rfl) (by kernel_rfl) (fun _ _ _ h => h) (Or.inr ⟨by rfl, rfl⟩) hH ?_
                  simp only [LY]
                  refine U_takeN (i := 14) (d := 155) (v := ?_) rfl rfl rfl (by kernel_rfl) (by kernel_rfl) (by kernel_rfl) (fun _ _ _ h => h) (Or.inl ⟨by rfl, ?_⟩) hH ?_
                  rotate_left
                  · intro w hSw
                    try dsimp only at hSw
                    go_simp
                    try with_reducible rfl
                  simp only [LY]
                  refine U_takeN (i := 15) (d := 17) (v := ?_) rfl rfl rfl (by kernel_rfl) (by kernel_rfl) (by kernel_rfl) (fun _ _ _ h => h) (Or.inl ⟨by rfl, ?_⟩) hH ?_
                  rotate_left
                  · intro w hSw
                    try dsimp only at hSw
                    go_simp
                    try with_reducible rfl
                  simp only [LY]
                  clear hH
                  refine U_endN (by kernel_rfl) ?_
                  have cs_0 : w55.cell? ⟨w53.heap.size, 0, none⟩ = some (.bool sh24) := Bls.at 0 rfl
                  have cs_1 : w55.cell? ⟨w53.heap.size, 1, none⟩ = some (.slice ah24 nh24 ch24) := Bls.at 1 rfl
                  have cs_2 : w55.cell? ⟨w53.heap.size, 2, none⟩ = some (.slice Ah24 Nh24 Ch24) := Bls.at 2 rfl
                  have Ls : w53.heap.size < w55.heap.size := Bls.lt
                  go_wp2_with (at_builtin; refine wpList.stop ?_)
                  refine ⟨?_⟩
                  clear cs_0 cs_1 cs_2 Ls
                  refine wpList.abs ?_
                  intro w56 hW
                  have hG : Gr [] w55 w56 := by rw [hW]; exact (Gr.refl _ _).alloc
                  have hbw : Below w22.heap.size w55 w56 := hG.below0 hs.size
                  have hk : KeepD w55 w56 := hG.keep True.intro
                  have sz_w56 : w22.heap.size ≤ w55.heap.size := hs.size
                  have nc_w56 : wr.heap.size < w55.heap.size := Blc.lt
                  have ny_w56 : w46.heap.size < w55.heap.size := Bly.lt
                  have ns_w56 : w53.heap.size < w55.heap.size := Bls.lt
                  have Blls4 : Bx w56 (w55.heap.size) 26 #[.bool sh24, .slice ah24 nh24 ch24, .slice Ah24 Nh24 Ch24] := by rw [hW]; exact (Bx.new0 _ _ _)
                  replace hs := hs.trans hbw
                  replace Blc := hG.bx Blc notMem0
                  replace Bly := hG.bx Bly notMem0
                  replace Bls := hG.bx Bls notMem0
                  replace he11a := he11a.keep hk
                  replace he14a := he14a.keep hk
                  replace h17 := h17.keep hk
                  replace he20a := he20a.keep hk
                  replace he23a := he23a.keep hk
                  replace h24 := h24.keep hk
                  replace Oow := Oow.mono PC.kept (hG.below0 (Nat.le_refl _))
                  replace Osh := Osh.mono PC.kept (hG.below0 (Nat.le_refl _))
                  clear hW hG hk hbw
                  have hz_w56 : w55.heap.size < w56.heap.size := Blls4.lt
                  obtain ⟨css, ho1, ho2, ho3, hown0⟩ := Osh
                  refine wpList_append_lies _ rfl _ _ _ rfl w22.heap.size 26 q0 _ 3 56 Try.underlying41 hq hx0 hx1 hx2 rfl (by omega) _ _ css.flatten rfl hown0 ⟨w55.heap.size, 0, none⟩ 1 1 [.bool sh24, .slice ah24 nh24 ch24, .slice Ah24 Nh24 Ch24] rfl rfl Blls4.news ?_ (by omega) ?_ ?_ ?_ _ rfl ?_
                  · intro u hu; simp only [List.mem_cons, List.mem_nil_iff, or_false] at hu; rcases hu with rfl | rfl | rfl <;> rfl
                  · unfold maxLen; (try simp only [List.length_append, List.length_cons, List.length_nil]); omega
                  · (try simp only [List.length_append, List.length_cons, List.length_nil]); omega
                  · exact hs.size
                  intro gsh capsh w57 hown1 hgrow hat hlt_
                  have hk_ := KeepD.owns hown0 hgrow (by decide)
                  have ho := owns_onlyT hown0 hgrow
                  replace hs := hs.grown hgrow hs.size (fun k hk => (hown0.lt k hk).1)
                  replace Osh := OwnR.push' PC.kept ho1 ho2 ho3 (x := ((fe8 : Int) : Rat) / ((te8 : Int) : Rat)) rfl ⟨_, _, _, rfl, h24⟩ (by simp) hown1 hk_
                  replace Blc := Blc.only ho (by decide)
                  have Ap_sh_y1 := Ap_sh_y.app hat Bly.lt
                  replace Bly := Bly.grown hgrow Ap_sh_y.ne
                  replace Ap_sh_y := Ap_sh_y1
                  clear Ap_sh_y1
                  have Ap_sh_s1 := Ap_sh_s.app hat Bls.lt
                  replace Bls := Bls.grown hgrow Ap_sh_s.ne
                  replace Ap_sh_s := Ap_sh_s1
                  clear Ap_sh_s1
                  replace he11a := he11a.keep hk_
                  replace he14a := he14a.keep hk_
                  replace h17 := h17.keep hk_
                  replace he20a := he20a.keep hk_
                  replace he23a := he23a.keep hk_
                  replace h24 := h24.keep hk_
                  have Aq1 := (Aq_ow_sh.symm.app hat Oow (Nat.le_refl _)).symm
                  replace Oow := Oow.grown PC.kept hgrow Aq_ow_sh.symm.or hk_
                  replace Aq_ow_sh := Aq1
                  clear Aq1
                  clear hk_ ho ho1 ho2 ho3 hown0 hown1 hgrow hat hlt_ Blls4
                  go_wp2
                  go_roundw
                  case rel => exact ⟨k + 1, by omega, by go_num, (congrArg _ (upT_no (by simpa using q25H.out)).symm), hs, by rw [ownK_kept (show 0 < k by omega) q22H.out]; exact Oow, by rw [shK_next Hte8.out Hfe8.out]; exact Osh, Aq_ow_sh⟩
                  all_goals first | (simp [intOf]; done) | (simp [intOf]; omega)
              · have q22_ : ¬ (sg21 < 0) := by have h := sq_lt (ownV O k) (nthQ (ownK O k) (k - 1)); rw [← Hsg21.out] at h; exact fun h1 => q22 (h.1 h1)
                have q22H := Lib.hid q22
                clear q22
                have q22d : decide (sg21 < 0) = false := decide_eq_false q22_
                go_upto_region 27 with fail
                clear row le20
                generalize hsv_ : Value.slice (some ⟨brow, orow, none⟩) (ownK O k).length krow = svow at *
                clear hsv_
                have cy_0 : w49.cell? ⟨w46.heap.size, 0, none⟩ = some (.bool sh17) := Bly.at 0 rfl
                have cy_1 : w49.cell? ⟨w46.heap.size, 1, none⟩ = some (.slice ah17 nh17 ch17) := Bly.at 1 rfl
                have cy_2 : w49.cell? ⟨w46.heap.size, 2, none⟩ = some (.slice Ah17 Nh17 Ch17) := Bly.at 2 rfl
                have Ly : w46.heap.size < w49.heap.size := Bly.lt
                go_wp2_with (at_builtin; refine wpList.stop ?_)
                refine ⟨?_⟩
                clear cy_0 cy_1 cy_2 Ly
                refine wpList.abs ?_
                intro w50 hW
                have hG : Gr [] w49 w50 := by rw [hW]; exact (Gr.refl _ _).alloc
                have hbw : Below w22.heap.size w49 w50 := hG.below0 hs.size
                have hk : KeepD w49 w50 := hG.keep True.intro
                have sz_w50 : w22.heap.size ≤ w49.heap.size := hs.size
                have nc_w50 : wr.heap.size < w49.heap.size := Blc.lt
                have ny_w50 : w46.heap.size < w49.heap.size := Bly.lt
                have Blls : Bx w50 (w49.heap.size) 26 #[.bool sh17, .slice ah17 nh17 ch17, .slice Ah17 Nh17 Ch17] := by rw [hW]; exact (Bx.new0 _ _ _)
                replace hs := hs.trans hbw
                replace Blc := hG.bx Blc notMem0
                replace Bly := hG.bx Bly notMem0
                replace he11a := he11a.keep hk
                replace he14a := he14a.keep hk
                replace h17 := h17.keep hk
                replace he20a := he20a.keep hk
                replace Oow := Oow.mono PC.kept (hG.below0 (Nat.le_refl _))
                replace Osh := Osh.mono PC.kept (hG.below0 (Nat.le_refl _))
                clear hW hG hk hbw
                have hz_w50 : w49.heap.size < w50.heap.size := Blls.lt
                obtain ⟨css, ho1, ho2, ho3, hown0⟩ := Oow
                refine wpList_append_lies _ rfl _ _ _ rfl w22.heap.size 26 q0 _ 3 56 Try.underlying41 hq hx0 hx1 hx2 rfl (by omega) _ _ css.flatten rfl hown0 ⟨w49.heap.size, 0, none⟩ 1 1 [.bool sh17, .slice ah17 nh17 ch17, .slice Ah17 Nh17 Ch17] rfl rfl Blls.news ?_ (by omega) ?_ ?_ ?_ _ rfl ?_
                · intro u hu; simp only [List.mem_cons, List.mem_nil_iff, or_false] at hu; rcases hu with rfl | rfl | rfl <;> rfl
                · unfold maxLen; (try simp only [List.length_append, List.length_cons, List.length_nil]); omega
                · (try simp only [List.length_append, List.length_cons, List.length_nil]); omega
                · exact hs.size
                intro gow capow w51 hown1 hgrow hat hlt_
                have hk_ := KeepD.owns hown0 hgrow (by decide)
                have ho := owns_onlyT hown0 hgrow
                replace hs := hs.grown hgrow hs.size (fun k hk => (hown0.lt k hk).1)
                replace Oow := OwnR.push' PC.kept ho1 ho2 ho3 (x := ownV O k) rfl ⟨_, _, _, rfl, h17⟩ (by simp) hown1 hk_
                replace Blc := Blc.only ho (by decide)
                have Ap_ow_y1 := Ap_ow_y.app hat Bly.lt
                replace Bly := Bly.grown hgrow Ap_ow_y.ne
                replace Ap_ow_y := Ap_ow_y1
                clear Ap_ow_y1
                replace he11a := he11a.keep hk_
                replace he14a := he14a.keep hk_
                replace h17 := h17.keep hk_
                replace he20a := he20a.keep hk_
                have Aq1 := Aq_ow_sh.app hat Osh (Nat.le_refl _)
                replace Osh := Osh.grown PC.kept hgrow Aq_ow_sh.or hk_
                replace Aq_ow_sh := Aq1
                clear Aq1
                clear hk_ ho ho1 ho2 ho3 hown0 hown1 hgrow hat hlt_ Blls
                have cc_0 : w51.cell? ⟨wr.heap.size, 0, none⟩ = some (.int .i64 te8) := Blc.at 0 rfl
                have cc_1 : w51.cell? ⟨wr.heap.size, 1, none⟩ = some (.int .i64 fe8) := Blc.at 1 rfl
                have Lc : wr.heap.size < w51.heap.size := Blc.lt
                go_wp2_with fail
                clear cc_0 cc_1 Lc
                with_reducible refine (l8_part (n := fe8) (d := te8) _ rfl (by omega) (by omega) (by omega) (by omega)).mono ?_
                rintro e w52 ⟨_, rfl, h23, hb⟩
                obtain ⟨sh23, ah23, nh23, ch23, Ah23, Nh23, Ch23, rfl⟩ := h23.shape
                replace hs := bStep hs hb
                replace Blc := Blc.mono hb
                replace Bly := Bly.mono hb
                replace he11a := he11a.mono hb
                replace he14a := he14a.mono hb
                replace h17 := h17.mono hb
                replace he20a := he20a.mono hb
                replace Oow := Oow.mono PC.kept hb
                replace Osh := Osh.mono PC.kept hb
                clear hb
                go_upto_region 29 with fail
                refine Code.abs ?_
                intro w53 hW
                have hG : Gr [] w52 w53 := by rw [hW]; exact (Gr.refl _ _).alloc
                have hbw : Below w22.heap.size w52 w53 := hG.below0 hs.size
                have hk : KeepD w52 w53 := hG.keep True.intro
                have sz_w53 : w22.heap.size ≤ w52.heap.size := hs.size
                have nc_w53 : wr.heap.size < w52.heap.size := Blc.lt
                have ny_w53 : w46.heap.size < w52.heap.size := Bly.lt
                have Bls : Bx w53 (w52.heap.size) 26 #[.bool sh23, .slice ah23 nh23 ch23, .slice Ah23 Nh23 Ch23] := by rw [hW]; exact (Bx.new0 _ _ _)
                have Ap_ow_s := Oow.ap (g := w52.heap.size) (by omega)
                have Ap_sh_s := Osh.ap (g := w52.heap.size) (by omega)
                replace hs := hs.trans hbw
                replace Blc := hG.bx Blc notMem0
                replace Bly := hG.bx Bly notMem0
                replace he11a := he11a.keep hk
                replace he14a := he14a.keep hk
                replace h17 := h17.keep hk
                replace he20a := he20a.keep hk
                replace h23 := h23.keep hk
                replace Oow := Oow.mono PC.kept (hG.below0 (Nat.le_refl _))
                replace Osh := Osh.mono PC.kept (hG.below0 (Nat.le_refl _))
                clear hW hG hk hbw
                have hz_w53 : w52.heap.size < w53.heap.size := Bls.lt
                by_cases q24 : upT A k = true
                · obtain rfl : b6 = true := by rw [Hb6.out]; exact q24
                  have q24H := Lib.hid q24
                  clear q24
                  have q25 : ¬ (k = 0) := (by omega)
                  have q25b : ((k : Int) == 0) = false := beq_eq_false_iff_ne.2 (by omega)
                  have q25n : ((k : Int) != 0) = true := bne_iff_ne.2 (by omega)
                  have q25H := Lib.hid q25
                  clear q25
                  have rsh := Osh.rows
                  obtain ⟨brsh, orsh, krsh, rfl, rsh1, rsh2, -⟩ := rsh.open_ (by omega)
                  have BI26a : (k - 1) < (shK A k).length := by omega
                  have BI26b : ((k : Int) - 1 : Int) < ((shK A k).length : Int) := by omega
                  obtain ⟨ge27a, ae27a, ne27a, ce27a, Ae27a, Ne27a, De27a, Ee270, Ee271, Ee272, he27a, le27⟩ := rowP_at (Osh.rows) (show (k - 1) < (shK A k).length by omega)
                  obtain ⟨sg28, Hsg28⟩ : ∃ s : Int, s = sgQ ((((fe8 : Int) : Rat) / ((te8 : Int) : Rat)) - (nthQ (shK A k) (k - 1))) := ⟨_, rfl⟩
                  replace Hsg28 := Lib.hid Hsg28
                  by_cases q29 : nthQ (shK A k) (k - 1) ≤ ((fe8 : Int) : Rat) / ((te8 : Int) : Rat)
                  · have q29_ : 0 ≤ sg28 := by have h := sq_ge (((fe8 : Int) : Rat) / ((te8 : Int) : Rat)) (nthQ (shK A k) (k - 1)); rw [← Hsg28.out] at h; exact h.2 q29
                    have q29H := Lib.hid q29
                    clear q29
                    have q29d : decide (0 ≤ sg28) = true := decide_eq_true q29_
                    refine U_region (S := fun w' => w'.cell? ⟨w52.heap.size, 0, none⟩ = some (.bool sh23) ∧ w'.cell? ⟨w52.heap.size, 1, none⟩ = some (.slice ah23 nh23 ch23) ∧ w'.cell? ⟨w52.heap.size, 2, none⟩ = some (.slice Ah23 Nh23 Ch23) ∧ w'.cell? ⟨brsh, orsh + (k - 1) * 3, none⟩ = some (.bool ge27a) ∧ w'.cell? ⟨brsh, orsh + (k - 1) * 3 + 1, none⟩ = some (.slice ae27a ne27a ce27a) ∧ w'.cell? ⟨brsh, orsh + (k - 1) * 3 + 2, none⟩ = some (.slice Ae27a Ne27a De27a)) (by kernel_rfl) 16 ?_
                    refine AnyU.abs ?_
                    intro w54 hW
                    have hb : Below w53.heap.size w53 w54 := by rw [hW]; exact bDrew _
                    replace hs := bStep hs hb
                    replace Blc := Blc.mono hb
                    replace Bly := Bly.mono hb
                    replace Bls := Bls.mono hb
                    replace he11a := he11a.mono hb
                    replace he14a := he14a.mono hb
                    replace h17 := h17.mono hb
                    replace he20a := he20a.mono hb
                    replace h23 := h23.mono hb
                    replace he27a := he27a.mono hb
                    replace Oow := Oow.mono PC.kept hb
                    replace Osh := Osh.mono PC.kept hb
                    replace Ee270 := cellK Ee270 hb
                    replace Ee271 := cellK Ee271 hb
                    replace Ee272 := cellK Ee272 hb
                    clear hb hW
                    have cs_0 : w54.cell? ⟨w52.heap.size, 0, none⟩ = some (.bool sh23) := Bls.at 0 rfl
                    have cs_1 : w54.cell? ⟨w52.heap.size, 1, none⟩ = some (.slice ah23 nh23 ch23) := Bls.at 1 rfl
                    have cs_2 : w54.cell? ⟨w52.heap.size, 2, none⟩ = some (.slice Ah23 Nh23 Ch23) := Bls.at 2 rfl
                    have hH := (show w54.cell? ⟨w52.heap.size, 0, none⟩ = some (.bool sh23) ∧ w54.cell? ⟨w52.heap.size, 1, none⟩ = some (.slice ah23 nh23 ch23) ∧ w54.cell? ⟨w52.heap.size, 2, none⟩ = some (.slice Ah23 Nh23 Ch23) ∧ w54.cell? ⟨brsh, orsh + (k - 1) * 3, none⟩ = some (.bool ge27a) ∧ w54.cell? ⟨brsh, orsh + (k - 1) * 3 + 1, none⟩ = some (.slice ae27a ne27a ce27a) ∧ w54.cell? ⟨brsh, orsh + (k - 1) * 3 + 2, none⟩ = some (.slice Ae27a Ne27a De27a) from ⟨cs_0, cs_1, cs_2, Ee270, Ee271, Ee272⟩)
                    refine U_takeN (i := 0) (d := 141) (v := ?_) rfl rfl rfl (by kernel_rfl) (by kernel_rfl) (by kernel_rfl) (fun _ _ _ h => h) (Or.inl ⟨by rfl, ?_⟩) hH ?_
                    rotate_left
                    · intro w hSw
                      try dsimp only at hSw
                      go_simp
                      try with_reducible rfl
                    simp only [LY]
                    refine U_takeN (i := 1) (d := 142) (v := ?_) rfl rfl rfl (by kernel_rfl) (by kernel_rfl) (by kernel_rfl) (fun _ _ _ h => h) (Or.inl ⟨by rfl, ?_⟩) hH ?_
                    rotate_left
                    · intro w hSw
                      try dsimp only at hSw
                      go_simp
                      try with_reducible rfl
                    simp only [LY]
                    refine U_takeN (i := 2) (d := 143) (v := ?_) rfl rfl rfl (by kernel_rfl) (by kernel_rfl) (by kernel_rfl) (fun _ _ _ h => h) (Or.inl ⟨by rfl, ?_⟩) hH ?_
                    rotate_left
                    · intro w hSw
                      try dsimp only at hSw
                      go_simp
                      try with_reducible rfl
                    simp only [LY]
                    refine U_takeN (i := 3) (d := 144) (v := ?_) rfl rfl rfl (by kernel_rfl) (by kernel_rfl) (by kernel_rfl) (fun _ _ _ h => h) (Or.inl ⟨by rfl, ?_⟩) hH ?_
                    rotate_left
                    · intro w hSw
                      try dsimp only at hSw
                      go_simp
                      try with_reducible rfl
                    simp only [LY]
                    refine U_takeN (i := 4) (d := 145) (v := ?_) rfl rfl rfl (by kernel_rfl) (by kernel_rfl) (by kernel_rfl) (fun _ _ _ h => h) (Or.inl ⟨by rfl, ?_⟩) hH ?_
                    rotate_left
                    · intro w hSw
                      try dsimp only at hSw
                      go_simp
                      try with_reducible rfl
                    simp only [LY]
                    refine U_takeN (i := 5) (d := 146) (v := ?_) rfl rfl rfl (by kernel_rfl) (by kernel_rfl) (by kernel_rfl) (fun _ _ _ h => h) (Or.inl ⟨by rfl, ?_⟩) hH ?_
                    rotate_left
                    · intro w hSw
                      try dsimp only at hSw
                      go_simp
                      try with_reducible rfl
                    simp only [LY]
                    refine U_takeN (i := 6) (d := 147) (v := ?_) rfl rfl rfl (by kernel_rfl) (by kernel_rfl) (by kernel_rfl) (fun _ _ _ h => h) (Or.inl ⟨by rfl, ?_⟩) hH ?_
                    rotate_left
                    · intro w hSw
                      try dsimp only at hSw
                      go_simp
                      try with_reducible rfl
                    simp only [LY]
                    refine U_takeN (i := 7) (d := 148) (v := ?_) rfl rfl rfl (by kernel_rfl) (by kernel_rfl) (by kernel_rfl) (fun _ _ _ h => h) (Or.inl ⟨by rfl, ?_⟩) hH ?_
                    rotate_left
                    · intro w hSw
                      try dsimp only at hSw
                      go_simp
                      try with_reducible rfl
                    simp only [LY]
                    refine U_takeN (i := 8) (d := 149) (v := ?_) rfl rfl rfl (by kernel_rfl) (by kernel_rfl) (by kernel_rfl) (fun _ _ _ h => h) (Or.inl ⟨by rfl, ?_⟩) hH ?_
                    rotate_left
                    · intro w hSw
                      try dsimp only at hSw
                      go_simp
                      try with_reducible rfl
                    simp only [LY]
                    refine U_takeN (i := 9) (d := 150) (v := ?_) rfl rfl rfl (by kernel_rfl) (by kernel_rfl) (by kernel_rfl) (fun _ _ _ h => h) (Or.inl ⟨by rfl, ?_⟩) hH ?_
                    rotate_left
                    · intro w hSw
                      try dsimp only at hSw
                      go_simp
                      try with_reducible rfl
                    simp only [LY]
                    refine U_takeN (i := 10) (d := 151) (v := ?_) rfl rfl rfl (by kernel_rfl) (by kernel_rfl) (by kernel_rfl) (fun _ _ _ h => h) (Or.inl ⟨by rfl, ?_⟩) hH ?_
                    rotate_left
                    · intro w hSw
                      try dsimp only at hSw
                      go_simp
                      try with_reducible rfl
                    simp only [LY]
                    clear hH
                    refine U_one (i := 11) (by kernel_rfl) rfl (fun K hK => ?_)
                    go_simp
                    (with_reducible refine (pCmp h23 he27a (SzQ.fit (szQ_frac (by omega) (by omega) (by omega))) (SzQ.fit (shK_sz HOK.out (show k ≤ A.length by omega) (k - 1) (by omega)))).mono ?_)
                    rintro e w55 ⟨rfl, hb⟩
                    replace hs := bStep hs hb
                    replace Blc := Blc.mono hb
                    replace Bly := Bly.mono hb
                    replace Bls := Bls.mono hb
                    replace he11a := he11a.mono hb
                    replace he14a := he14a.mono hb
                    replace h17 := h17.mono hb
                    replace he20a := he20a.mono hb
                    replace h23 := h23.mono hb
                    replace he27a := he27a.mono hb
                    replace Oow := Oow.mono PC.kept hb
                    replace Osh := Osh.mono PC.kept hb
                    replace cs_0 := cellK cs_0 hb
                    replace cs_1 := cellK cs_1 hb
                    replace cs_2 := cellK cs_2 hb
                    replace Ee270 := cellK Ee270 hb
                    replace Ee271 := cellK Ee271 hb
                    replace Ee272 := cellK Ee272 hb
                    clear hb
                    rw [← Hsg28.out]
                    try go_wp2_with fail
                    refine hK.out _ _ ⟨cs_0, cs_1, cs_2, Ee270, Ee271, Ee272⟩ (fun hH => ?_)
                    clear hK K
                    try simp only [LY]
                    refine U_takeN (i := 12) (d := 153) (v := ?_) rfl rfl rfl (by kernel_rfl) (by kernel_rfl) (by kernel_rfl) (fun _ _ _ h => h) (Or.inl ⟨by rfl, ?_⟩) hH ?_
                    rotate_left
                    · intro w hSw
                      try dsimp only at hSw
                      go_simp
                      try with_reducible rfl
                    simp only [LY]
                    refine U_takeN (i := 13) (d := 154) (v := ?_) rfl rfl rfl (by kernel_rfl) (by kernel_rfl) (by kernel_rfl) (fun _ _ _ h => h) (Or.inl ⟨by rfl, ?_⟩) hH ?_
                    rotate_left
                    · intro w hSw
                      try dsimp only at hSw
                      go_simp
                      try with_reducible rfl
                    simp only [LY]
                    refine U_takeN (i := 14) (d := 155) (v := ?_) rfl rfl rfl (by kernel_rfl) (by kernel_rfl) (by kernel_rfl) (fun _ _ _ h => h) (Or.inl ⟨by rfl, ?_⟩) hH ?_
                    rotate_left
                    · intro w hSw
                      try dsimp only at hSw
                      go_simp
                      try with_reducible rfl
                    simp only [LY]
                    refine U_takeN (i := 15) (d := 17) (v := ?_) rfl rfl rfl (by kernel_rfl) (by kernel_rfl) (by kernel_rfl) (fun _ _ _ h => h) (Or.inl ⟨by rfl, ?_⟩) hH ?_
                    rotate_left
                    · intro w hSw
                      try dsimp only at hSw
                      go_simp
                      try with_reducible rfl
                    simp only [LY]
                    clear hH
                    refine U_endN (by kernel_rfl) ?_
                    clear cs_0 cs_1 cs_2 Ee270 Ee271 Ee272
                    go_upto_region 30 with fail
                    clear rsh le27
                    generalize hsv_ : Value.slice (some ⟨brsh, orsh, none⟩) (shK A k).length krsh = svsh at *
                    clear hsv_
                    have cs_0 : w55.cell? ⟨w52.heap.size, 0, none⟩ = some (.bool sh23) := Bls.at 0 rfl
                    have cs_1 : w55.cell? ⟨w52.heap.size, 1, none⟩ = some (.slice ah23 nh23 ch23) := Bls.at 1 rfl
                    have cs_2 : w55.cell? ⟨w52.heap.size, 2, none⟩ = some (.slice Ah23 Nh23 Ch23) := Bls.at 2 rfl
                    have Ls : w52.heap.size < w55.heap.size := Bls.lt
                    go_wp2_with (at_builtin; refine wpList.stop ?_)
                    refine ⟨?_⟩
                    clear cs_0 cs_1 cs_2 Ls
                    refine wpList.abs ?_
                    intro w56 hW
                    have hG : Gr [] w55 w56 := by rw [hW]; exact (Gr.refl _ _).alloc
                    have hbw : Below w22.heap.size w55 w56 := hG.below0 hs.size
                    have hk : KeepD w55 w56 := hG.keep True.intro
                    have sz_w56 : w22.heap.size ≤ w55.heap.size := hs.size
                    have nc_w56 : wr.heap.size < w55.heap.size := Blc.lt
                    have ny_w56 : w46.heap.size < w55.heap.size := Bly.lt
                    have ns_w56 : w52.heap.size < w55.heap.size := Bls.lt
                    have Blls4 : Bx w56 (w55.heap.size) 26 #[.bool sh23, .slice ah23 nh23 ch23, .slice Ah23 Nh23 Ch23] := by rw [hW]; exact (Bx.new0 _ _ _)
                    replace hs := hs.trans hbw
                    replace Blc := hG.bx Blc notMem0
                    replace Bly := hG.bx Bly notMem0
                    replace Bls := hG.bx Bls notMem0
                    replace he11a := he11a.keep hk
                    replace he14a := he14a.keep hk
                    replace h17 := h17.keep hk
                    replace he20a := he20a.keep hk
                    replace h23 := h23.keep hk
                    replace he27a := he27a.keep hk
                    replace Oow := Oow.mono PC.kept (hG.below0 (Nat.le_refl _))
                    replace Osh := Osh.mono PC.kept (hG.below0 (Nat.le_refl _))
                    clear hW hG hk hbw
                    have hz_w56 : w55.heap.size < w56.heap.size := Blls4.lt
                    obtain ⟨css, ho1, ho2, ho3, hown0⟩ := Osh
                    refine wpList_append_lies _ rfl _ _ _ rfl w22.heap.size 26 q0 _ 3 56 Try.underlying41 hq hx0 hx1 hx2 rfl (by omega) _ _ css.flatten rfl hown0 ⟨w55.heap.size, 0, none⟩ 1 1 [.bool sh23, .slice ah23 nh23 ch23, .slice Ah23 Nh23 Ch23] rfl rfl Blls4.news ?_ (by omega) ?_ ?_ ?_ _ rfl ?_
                    · intro u hu; simp only [List.mem_cons, List.mem_nil_iff, or_false] at hu; rcases hu with rfl | rfl | rfl <;> rfl
                    · unfold maxLen; (try simp only [List.length_append, List.length_cons, List.length_nil]); omega
                    · (try simp only [List.length_append, List.length_cons, List.length_nil]); omega
                    · exact hs.size
                    intro gsh capsh w57 hown1 hgrow hat hlt_
                    have hk_ := KeepD.owns hown0 hgrow (by decide)
                    have ho := owns_onlyT hown0 hgrow
                    replace hs := hs.grown hgrow hs.size (fun k hk => (hown0.lt k hk).1)
                    replace Osh := OwnR.push' PC.kept ho1 ho2 ho3 (x := ((fe8 : Int) : Rat) / ((te8 : Int) : Rat)) rfl ⟨_, _, _, rfl, h23⟩ (by simp) hown1 hk_
                    replace Blc := Blc.only ho (by decide)
                    have Ap_sh_y1 := Ap_sh_y.app hat Bly.lt
                    replace Bly := Bly.grown hgrow Ap_sh_y.ne
                    replace Ap_sh_y := Ap_sh_y1
                    clear Ap_sh_y1
                    have Ap_sh_s1 := Ap_sh_s.app hat Bls.lt
                    replace Bls := Bls.grown hgrow Ap_sh_s.ne
                    replace Ap_sh_s := Ap_sh_s1
                    clear Ap_sh_s1
                    replace he11a := he11a.keep hk_
                    replace he14a := he14a.keep hk_
                    replace h17 := h17.keep hk_
                    replace he20a := he20a.keep hk_
                    replace h23 := h23.keep hk_
                    replace he27a := he27a.keep hk_
                    have Aq1 := (Aq_ow_sh.symm.app hat Oow (Nat.le_refl _)).symm
                    replace Oow := Oow.grown PC.kept hgrow Aq_ow_sh.symm.or hk_
                    replace Aq_ow_sh := Aq1
                    clear Aq1
                    clear hk_ ho ho1 ho2 ho3 hown0 hown1 hgrow hat hlt_ Blls4
                    go_wp2
                    go_roundw
                    case rel => exact ⟨k + 1, by omega, by go_num, (congrArg _ (upT_yes Hte8.out Hfe8.out q24H.out (show 0 < k by omega) (Rat.not_lt.2 q29H.out)).symm), hs, by rw [ownK_new (show 0 < k by omega) q22H.out]; exact Oow, by rw [shK_next Hte8.out Hfe8.out]; exact Osh, Aq_ow_sh⟩
                    all_goals first | (simp [intOf]; done) | (simp [intOf]; omega)
                  · have q29_ : ¬ (0 ≤ sg28) := by have h := sq_ge (((fe8 : Int) : Rat) / ((te8 : Int) : Rat)) (nthQ (shK A k) (k - 1)); rw [← Hsg28.out] at h; exact fun h1 => q29 (h.1 h1)
                    have q29H := Lib.hid q29
                    clear q29
                    have q29d : decide (0 ≤ sg28) = false := decide_eq_false q29_
                    refine U_region (S := fun w' => w'.cell? ⟨w52.heap.size, 0, none⟩ = some (.bool sh23) ∧ w'.cell? ⟨w52.heap.size, 1, none⟩ = some (.slice ah23 nh23 ch23) ∧ w'.cell? ⟨w52.heap.size, 2, none⟩ = some (.slice Ah23 Nh23 Ch23) ∧ w'.cell? ⟨brsh, orsh + (k - 1) * 3, none⟩ = some (.bool ge27a) ∧ w'.cell? ⟨brsh, orsh + (k - 1) * 3 + 1, none⟩ = some (.slice ae27a ne27a ce27a) ∧ w'.cell? ⟨brsh, orsh + (k - 1) * 3 + 2, none⟩ = some (.slice Ae27a Ne27a De27a)) (by kernel_rfl) 16 ?_
                    refine AnyU.abs ?_
                    intro w54 hW
                    have hb : Below w53.heap.size w53 w54 := by rw [hW]; exact bDrew _
                    replace hs := bStep hs hb
                    replace Blc := Blc.mono hb
                    replace Bly := Bly.mono hb
                    replace Bls := Bls.mono hb
                    replace he11a := he11a.mono hb
                    replace he14a := he14a.mono hb
                    replace h17 := h17.mono hb
                    replace he20a := he20a.mono hb
                    replace h23 := h23.mono hb
                    replace he27a := he27a.mono hb
                    replace Oow := Oow.mono PC.kept hb
                    replace Osh := Osh.mono PC.kept hb
                    replace Ee270 := cellK Ee270 hb
                    replace Ee271 := cellK Ee271 hb
                    replace Ee272 := cellK Ee272 hb
                    clear hb hW
                    have cs_0 : w54.cell? ⟨w52.heap.size, 0, none⟩ = some (.bool sh23) := Bls.at 0 rfl
                    have cs_1 : w54.cell? ⟨w52.heap.size, 1, none⟩ = some (.slice ah23 nh23 ch23) := Bls.at 1 rfl
                    have cs_2 : w54.cell? ⟨w52.heap.size, 2, none⟩ = some (.slice Ah23 Nh23 Ch23) := Bls.at 2 rfl
                    have hH := (show w54.cell? ⟨w52.heap.size, 0, none⟩ = some (.bool sh23) ∧ w54.cell? ⟨w52.heap.size, 1, none⟩ = some (.slice ah23 nh23 ch23) ∧ w54.cell? ⟨w52.heap.size, 2, none⟩ = some (.slice Ah23 Nh23 Ch23) ∧ w54.cell? ⟨brsh, orsh + (k - 1) * 3, none⟩ = some (.bool ge27a) ∧ w54.cell? ⟨brsh, orsh + (k - 1) * 3 + 1, none⟩ = some (.slice ae27a ne27a ce27a) ∧ w54.cell? ⟨brsh, orsh + (k - 1) * 3 + 2, none⟩ = some (.slice Ae27a Ne27a De27a) from ⟨cs_0, cs_1, cs_2, Ee270, Ee271, Ee272⟩)
                    refine U_takeN (i := 0) (d := 141) (v := ?_) rfl rfl rfl (by kernel_rfl) (by kernel_rfl) (by kernel_rfl) (fun _ _ _ h => h) (Or.inl ⟨by rfl, ?_⟩) hH ?_
                    rotate_left
                    · intro w hSw
                      try dsimp only at hSw
                      go_simp
                      try with_reducible rfl
                    simp only [LY]
                    refine U_takeN (i := 1) (d := 142) (v := ?_) rfl rfl rfl (by kernel_rfl) (by kernel_rfl) (by kernel_rfl) (fun _ _ _ h => h) (Or.inl ⟨by rfl, ?_⟩) hH ?_
                    rotate_left
                    · intro w hSw
                      try dsimp only at hSw
                      go_simp
                      try with_reducible rfl
                    simp only [LY]
                    refine U_takeN (i := 2) (d := 143) (v := ?_) rfl rfl rfl (by kernel_rfl) (by kernel_rfl) (by kernel_rfl) (fun _ _ _ h => h) (Or.inl ⟨by rfl, ?_⟩) hH ?_
                    rotate_left
                    · intro w hSw
                      try dsimp only at hSw
                      go_simp
                      try with_reducible rfl
                    simp only [LY]
                    refine U_takeN (i := 3) (d := 144) (v := ?_) rfl rfl rfl (by kernel_rfl) (by kernel_rfl) (by kernel_rfl) (fun _ _ _ h => h) (Or.inl ⟨by rfl, ?_⟩) hH ?_
                    rotate_left
                    · intro w hSw
                      try dsimp only at hSw
                      go_simp
                      try with_reducible rfl
                    simp only [LY]
                    refine U_takeN (i := 4) (d := 145) (v := ?_) rfl rfl rfl (by kernel_rfl) (by kernel_rfl) (by kernel_rfl) (fun _ _ _ h => h) (Or.inl ⟨by rfl, ?_⟩) hH ?_
                    rotate_left
                    · intro w hSw
                      try dsimp only at hSw
                      go_simp
                      try with_reducible rfl
                    simp only [LY]
                    refine U_takeN (i := 5) (d := 146) (v := ?_) rfl rfl rfl (by kernel_rfl) (by kernel_rfl) (by kernel_rfl) (fun _ _ _ h => h) (Or.inl ⟨by rfl, ?_⟩) hH ?_
                    rotate_left
                    · intro w hSw
                      try dsimp only at hSw
                      go_simp
                      try with_reducible rfl
                    simp only [LY]
                    refine U_takeN (i := 6) (d := 147) (v := ?_) rfl rfl rfl (by kernel_rfl) (by kernel_rfl) (by kernel_rfl) (fun _ _ _ h => h) (Or.inl ⟨by rfl, ?_⟩) hH ?_
                    rotate_left
                    · intro w hSw
                      try dsimp only at hSw
                      go_simp
                      try with_reducible rfl
                    simp only [LY]
                    refine U_takeN (i := 7) (d := 148) (v := ?_) rfl rfl rfl (by kernel_rfl) (by kernel_rfl) (by kernel_rfl) (fun _ _ _ h => h) (Or.inl ⟨by rfl, ?_⟩) hH ?_
                    rotate_left
                    · intro w hSw
                      try dsimp only at hSw
                      go_simp
                      try with_reducible rfl
                    simp only [LY]
                    refine U_takeN (i := 8) (d := 149) (v := ?_) rfl rfl rfl (by kernel_rfl) (by kernel_rfl) (by kernel_rfl) (fun _ _ _ h => h) (Or.inl ⟨by rfl, ?_⟩) hH ?_
                    rotate_left
                    · intro w hSw
                      try dsimp only at hSw
                      go_simp
                      try with_reducible rfl
                    simp only [LY]
                    refine U_takeN (i := 9) (d := 150) (v := ?_) rfl rfl rfl (by kernel_rfl) (by kernel_rfl) (by kernel_rfl) (fun _ _ _ h => h) (Or.inl ⟨by rfl, ?_⟩) hH ?_
                    rotate_left
                    · intro w hSw
                      try dsimp only at hSw
                      go_simp
                      try with_reducible rfl
                    simp only [LY]
                    refine U_takeN (i := 10) (d := 151) (v := ?_) rfl rfl rfl (by kernel_rfl) (by kernel_rfl) (by kernel_rfl) (fun _ _ _ h => h) (Or.inl ⟨by rfl, ?_⟩) hH ?_
                    rotate_left
                    · intro w hSw
                      try dsimp only at hSw
                      go_simp
                      try with_reducible rfl
                    simp only [LY]
                    clear hH
                    refine U_one (i := 11) (by kernel_rfl) rfl (fun K hK => ?_)
                    go_simp
                    (with_reducible refine (pCmp h23 he27a (SzQ.fit (szQ_frac (by omega) (by omega) (by omega))) (SzQ.fit (shK_sz HOK.out (show k ≤ A.length by omega) (k - 1) (by omega)))).mono ?_)
                    rintro e w55 ⟨rfl, hb⟩
                    replace hs := bStep hs hb
                    replace Blc := Blc.mono hb
                    replace Bly := Bly.mono hb
                    replace Bls := Bls.mono hb
                    replace he11a := he11a.mono hb
                    replace he14a := he14a.mono hb
                    replace h17 := h17.mono hb
                    replace he20a := he20a.mono hb
                    replace h23 := h23.mono hb
                    replace he27a := he27a.mono hb
                    replace Oow := Oow.mono PC.kept hb
                    replace Osh := Osh.mono PC.kept hb
                    replace cs_0 := cellK cs_0 hb
                    replace cs_1 := cellK cs_1 hb
                    replace cs_2 := cellK cs_2 hb
                    replace Ee270 := cellK Ee270 hb
                    replace Ee271 := cellK Ee271 hb
                    replace Ee272 := cellK Ee272 hb
                    clear hb
                    rw [← Hsg28.out]
                    try go_wp2_with fail
                    refine hK.out _ _ ⟨cs_0, cs_1, cs_2, Ee270, Ee271, Ee272⟩ (fun hH => ?_)
                    clear hK K
                    try simp only [LY]
                    refine U_takeN (i := 12) (d := 153) (v := ?_) rfl rfl rfl (by kernel_rfl) (by kernel_rfl) (by kernel_rfl) (fun _ _ _ h => h) (Or.inl ⟨by rfl, ?_⟩) hH ?_
                    rotate_left
                    · intro w hSw
                      try dsimp only at hSw
                      go_simp
                      try with_reducible rfl
                    simp only [LY]
                    refine U_takeN (i := 13) (d := 154) (v := ?_) rfl rfl rfl (by kernel_rfl) (by kernel_rfl) (by kernel_rfl) (fun _ _ _ h => h) (Or.inl ⟨by rfl, ?_⟩) hH ?_
                    rotate_left
                    · intro w hSw
                      try dsimp only at hSw
                      go_simp
                      try with_reducible rfl
                    simp only [LY]
                    refine U_takeN (i := 14) (d := 155) (v := ?_) rfl rfl rfl (by kernel_rfl) (by kernel_rfl) (by kernel_rfl) (fun _ _ _ h => h) (Or.inl ⟨by rfl, ?_⟩) hH ?_
                    rotate_left
                    · intro w hSw
                      try dsimp only at hSw
                      go_simp
                      try with_reducible rfl
                    simp only [LY]
                    refine U_takeN (i := 15) (d := 17) (v := ?_) rfl rfl rfl (by kernel_rfl) (by kernel_rfl) (by kernel_rfl) (fun _ _ _ h => h) (Or.inl ⟨by rfl, ?_⟩) hH ?_
                    rotate_left
                    · intro w hSw
                      try dsimp only at hSw
                      go_simp
                      try with_reducible rfl
                    simp only [LY]
                    clear hH
                    refine U_endN (by kernel_rfl) ?_
                    clear cs_0 cs_1 cs_2 Ee270 Ee271 Ee272
                    go_upto_region 30 with fail
                    clear rsh le27
                    generalize hsv_ : Value.slice (some ⟨brsh, orsh, none⟩) (shK A k).length krsh = svsh at *
                    clear hsv_
                    have cs_0 : w55.cell? ⟨w52.heap.size, 0, none⟩ = some (.bool sh23) := Bls.at 0 rfl
                    have cs_1 : w55.cell? ⟨w52.heap.size, 1, none⟩ = some (.slice ah23 nh23 ch23) := Bls.at 1 rfl
                    have cs_2 : w55.cell? ⟨w52.heap.size, 2, none⟩ = some (.slice Ah23 Nh23 Ch23) := Bls.at 2 rfl
                    have Ls : w52.heap.size < w55.heap.size := Bls.lt
                    go_wp2_with (at_builtin; refine wpList.stop ?_)
                    refine ⟨?_⟩
                    clear cs_0 cs_1 cs_2 Ls
                    refine wpList.abs ?_
                    intro w56 hW
                    have hG : Gr [] w55 w56 := by rw [hW]; exact (Gr.refl _ _).alloc
                    have hbw : Below w22.heap.size w55 w56 := hG.below0 hs.size
                    have hk : KeepD w55 w56 := hG.keep True.intro
                    have sz_w56 : w22.heap.size ≤ w55.heap.size := hs.size
                    have nc_w56 : wr.heap.size < w55.heap.size := Blc.lt
                    have ny_w56 : w46.heap.size < w55.heap.size := Bly.lt
                    have ns_w56 : w52.heap.size < w55.heap.size := Bls.lt
                    have Blls4 : Bx w56 (w55.heap.size) 26 #[.bool sh23, .slice ah23 nh23 ch23, .slice Ah23 Nh23 Ch23] := by rw [hW]; exact (Bx.new0 _ _ _)
                    replace hs := hs.trans hbw
                    replace Blc := hG.bx Blc notMem0
                    replace Bly := hG.bx Bly notMem0
                    replace Bls := hG.bx Bls notMem0
                    replace he11a := he11a.keep hk
                    replace he14a := he14a.keep hk
                    replace h17 := h17.keep hk
                    replace he20a := he20a.keep hk
                    replace h23 := h23.keep hk
                    replace he27a := he27a.keep hk
                    replace Oow := Oow.mono PC.kept (hG.below0 (Nat.le_refl _))
                    replace Osh := Osh.mono PC.kept (hG.below0 (Nat.le_refl _))
                    clear hW hG hk hbw
                    have hz_w56 : w55.heap.size < w56.heap.size := Blls4.lt
                    obtain ⟨css, ho1, ho2, ho3, hown0⟩ := Osh
                    refine wpList_append_lies _ rfl _ _ _ rfl w22.heap.size 26 q0 _ 3 56 Try.underlying41 hq hx0 hx1 hx2 rfl (by omega) _ _ css.flatten rfl hown0 ⟨w55.heap.size, 0, none⟩ 1 1 [.bool sh23, .slice ah23 nh23 ch23, .slice Ah23 Nh23 Ch23] rfl rfl Blls4.news ?_ (by omega) ?_ ?_ ?_ _ rfl ?_
                    · intro u hu; simp only [List.mem_cons, List.mem_nil_iff, or_false] at hu; rcases hu with rfl | rfl | rfl <;> rfl
                    · unfold maxLen; (try simp only [List.length_append, List.length_cons, List.length_nil]); omega
                    · (try simp only [List.length_append, List.length_cons, List.length_nil]); omega
                    · exact hs.size
                    intro gsh capsh w57 hown1 hgrow hat hlt_
                    have hk_ := KeepD.owns hown0 hgrow (by decide)
                    have ho := owns_onlyT hown0 hgrow
                    replace hs := hs.grown hgrow hs.size (fun k hk => (hown0.lt k hk).1)
                    replace Osh := OwnR.push' PC.kept ho1 ho2 ho3 (x := ((fe8 : Int) : Rat) / ((te8 : Int) : Rat)) rfl ⟨_, _, _, rfl, h23⟩ (by simp) hown1 hk_
                    replace Blc := Blc.only ho (by decide)
                    have Ap_sh_y1 := Ap_sh_y.app hat Bly.lt
                    replace Bly := Bly.grown hgrow Ap_sh_y.ne
                    replace Ap_sh_y := Ap_sh_y1
                    clear Ap_sh_y1
                    have Ap_sh_s1 := Ap_sh_s.app hat Bls.lt
                    replace Bls := Bls.grown hgrow Ap_sh_s.ne
                    replace Ap_sh_s := Ap_sh_s1
                    clear Ap_sh_s1
                    replace he11a := he11a.keep hk_
                    replace he14a := he14a.keep hk_
                    replace h17 := h17.keep hk_
                    replace he20a := he20a.keep hk_
                    replace h23 := h23.keep hk_
                    replace he27a := he27a.keep hk_
                    have Aq1 := (Aq_ow_sh.symm.app hat Oow (Nat.le_refl _)).symm
                    replace Oow := Oow.grown PC.kept hgrow Aq_ow_sh.symm.or hk_
                    replace Aq_ow_sh := Aq1
                    clear Aq1
                    clear hk_ ho ho1 ho2 ho3 hown0 hown1 hgrow hat hlt_ Blls4
                    go_wp2
                    go_roundw
                    case rel => exact ⟨k + 1, by omega, by go_num, (congrArg _ (upT_fall Hte8.out Hfe8.out (show 0 < k by omega) (Rat.not_le.1 q29H.out)).symm), hs, by rw [ownK_new (show 0 < k by omega) q22H.out]; exact Oow, by rw [shK_next Hte8.out Hfe8.out]; exact Osh, Aq_ow_sh⟩
                    all_goals first | (simp [intOf]; done) | (simp [intOf]; omega)
                · obtain rfl : b6 = false := by rw [Hb6.out]; simpa using q24
                  have q24H := Lib.hid q24
                  clear q24
                  refine U_region (S := fun w' => True) (by kernel_rfl) 16 ?_
                  refine AnyU.abs ?_
                  intro w54 hW
                  have hb : Below w53.heap.size w53 w54 := by rw [hW]; exact bDrew _
                  replace hs := bStep hs hb
                  replace Blc := Blc.mono hb
                  replace Bly := Bly.mono hb
                  replace Bls := Bls.mono hb
                  replace he11a := he11a.mono hb
                  replace he14a := he14a.mono hb
                  replace h17 := h17.mono hb
                  replace he20a := he20a.mono hb
                  replace h23 := h23.mono hb
                  replace Oow := Oow.mono PC.kept hb
                  replace Osh := Osh.mono PC.kept hb
                  clear hb hW
                  have hH := (show True from True.intro)
                  refine U_takeN (i := 0) (d := 141) (v := ?_) rfl rfl rfl (by kernel_rfl) (by kernel_rfl) (by kernel_rfl) (fun _ _ _ h => h) (Or.inl ⟨by rfl, ?_⟩) hH ?_
                  rotate_left
                  · intro w hSw
                    try dsimp only at hSw
                    go_simp
                    try with_reducible rfl
                  simp only [LY]
                  refine U_takeN (i := 1) (d := 142) (v := ?_) rfl rfl rfl (by kernel_rfl) (by kernel_rfl) (by kernel_rfl) (fun _ _ _ h => h) (Or.inl ⟨by rfl, ?_⟩) hH ?_
                  rotate_left
                  · intro w hSw
                    try dsimp only at hSw
                    go_simp
                    try with_reducible rfl
                  simp only [LY]
                  refine U_takeN (i := 2) (d := 143) (v := undef) rfl rfl rfl (by kernel_rfl) (by kernel_rfl) (by kernel_rfl) (fun _ _ _ h => h) (Or.inr ⟨by rfl, rfl⟩) hH ?_
                  simp only [LY]
                  refine U_takeN (i := 3) (d := 144) (v := undef) rfl rfl rfl (by kernel_rfl) (by kernel_rfl) (by kernel_rfl) (fun _ _ _ h => h) (Or.inr ⟨by rfl, rfl⟩) hH ?_
                  simp only [LY]
                  refine U_takeN (i := 4) (d := 145) (v := undef) rfl rfl rfl (by kernel_rfl) (by kernel_rfl) (by kernel_rfl) (fun _ _ _ h => h) (Or.inr ⟨by rfl, rfl⟩) hH ?_
                  simp only [LY]
                  refine U_takeN (i := 5) (d := 146) (v := undef) rfl rfl rfl (by kernel_rfl) (by kernel_rfl) (by kernel_rfl) (fun _ _ _ h => h) (Or.inr ⟨by rfl, rfl⟩) hH ?_
                  simp only [LY]
                  refine U_takeN (i := 6) (d := 147) (v := undef) rfl rfl rfl (by kernel_rfl) (by kernel_rfl) (by kernel_rfl) (fun _ _ _ h => h) (Or.inr ⟨by rfl, rfl⟩) hH ?_
                  simp only [LY]
                  refine U_takeN (i := 7) (d := 148) (v := undef) rfl rfl rfl (by kernel_rfl) (by kernel_rfl) (by kernel_rfl) (fun _ _ _ h => h) (Or.inr ⟨by rfl, rfl⟩) hH ?_
                  simp only [LY]
                  refine U_takeN (i := 8) (d := 149) (v := undef) rfl rfl rfl (by kernel_rfl) (by kernel_rfl) (by kernel_rfl) (fun _ _ _ h => h) (Or.inr ⟨by rfl, rfl⟩) hH ?_
                  simp only [LY]
                  refine U_takeN (i := 9) (d := 150) (v := undef) rfl rfl rfl (by kernel_rfl) (by kernel_rfl) (by kernel_rfl) (fun _ _ _ h => h) (Or.inr ⟨by rfl, rfl⟩) hH ?_
                  simp only [LY]
                  refine U_takeN (i := 10) (d := 151) (v := undef) rfl rfl rfl (by kernel_rfl) (by kernel_rfl) (by kernel_rfl) (fun _ _ _ h => h) (Or.inr ⟨by rfl, rfl⟩) hH ?_
                  simp only [LY]
                  clear hH
                  refine U_one (i := 11) (by kernel_rfl) rfl (fun K hK => ?_)
                  go_simp
                  refine hK.out _ _ True.intro (fun hH => ?_)
                  clear hK K
                  try simp only [LY]
                  refine U_takeN (i := 12) (d := 153) (v := undef) rfl rfl rfl (by kernel_rfl) (by kernel_rfl) (by kernel_rfl) (fun _ _ _ h => h) (Or.inr ⟨by rfl, rfl⟩) hH ?_
                  simp only [LY]
                  refine U_takeN (i := 13) (d := 154) (v := undef) rfl rfl rfl (by kernel_rfl) (by kernel_rfl) (by kernel_rfl) (fun _ _ _ h => h) (Or.inr ⟨by rfl, rfl⟩) hH ?_
                  simp only [LY]
                  refine U_takeN (i := 14) (d := 155) (v := ?_) rfl rfl rfl (by kernel_rfl) (by kernel_rfl) (by kernel_rfl) (fun _ _ _ h => h) (Or.inl ⟨by rfl, ?_⟩) hH ?_
                  rotate_left
                  · intro w hSw
                    try dsimp only at hSw
                    go_simp
                    try with_reducible rfl
                  simp only [LY]
                  refine U_takeN (i := 15) (d := 17) (v := ?_) rfl rfl rfl (by kernel_rfl) (by kernel_rfl) (by kernel_rfl) (fun _ _ _ h => h) (Or.inl ⟨by rfl, ?_⟩) hH ?_
                  rotate_left
                  · intro w hSw
                    try dsimp only at hSw
                    go_simp
                    try with_reducible rfl
                  simp only [LY]
                  clear hH
                  refine U_endN (by kernel_rfl) ?_
                  have cs_0 : w54.cell? ⟨w52.heap.size, 0, none⟩ = some (.bool sh23) := Bls.at 0 rfl
                  have cs_1 : w54.cell? ⟨w52.heap.size, 1, none⟩ = some (.slice ah23 nh23 ch23) := Bls.at 1 rfl
                  have cs_2 : w54.cell? ⟨w52.heap.size, 2, none⟩ = some (.slice Ah23 Nh23 Ch23) := Bls.at 2 rfl
                  have Ls : w52.heap.size < w54.heap.size := Bls.lt
                  go_wp2_with (at_builtin; refine wpList.stop ?_)
                  refine ⟨?_⟩
                  clear cs_0 cs_1 cs_2 Ls
                  refine wpList.abs ?_
                  intro w55 hW
                  have hG : Gr [] w54 w55 := by rw [hW]; exact (Gr.refl _ _).alloc
                  have hbw : Below w22.heap.size w54 w55 := hG.below0 hs.size
                  have hk : KeepD w54 w55 := hG.keep True.intro
                  have sz_w55 : w22.heap.size ≤ w54.heap.size := hs.size
                  have nc_w55 : wr.heap.size < w54.heap.size := Blc.lt
                  have ny_w55 : w46.heap.size < w54.heap.size := Bly.lt
                  have ns_w55 : w52.heap.size < w54.heap.size := Bls.lt
                  have Blls4 : Bx w55 (w54.heap.size) 26 #[.bool sh23, .slice ah23 nh23 ch23, .slice Ah23 Nh23 Ch23] := by rw [hW]; exact (Bx.new0 _ _ _)
                  replace hs := hs.trans hbw
                  replace Blc := hG.bx Blc notMem0
                  replace Bly := hG.bx Bly notMem0
                  replace Bls := hG.bx Bls notMem0
                  replace he11a := he11a.keep hk
                  replace he14a := he14a.keep hk
                  replace h17 := h17.keep hk
                  replace he20a := he20a.keep hk
                  replace h23 := h23.keep hk
                  replace Oow := Oow.mono PC.kept (hG.below0 (Nat.le_refl _))
                  replace Osh := Osh.mono PC.kept (hG.below0 (Nat.le_refl _))
                  clear hW hG hk hbw
                  have hz_w55 : w54.heap.size < w55.heap.size := Blls4.lt
                  obtain ⟨css, ho1, ho2, ho3, hown0⟩ := Osh
                  refine wpList_append_lies _ rfl _ _ _ rfl w22.heap.size 26 q0 _ 3 56 Try.underlying41 hq hx0 hx1 hx2 rfl (by omega) _ _ css.flatten rfl hown0 ⟨w54.heap.size, 0, none⟩ 1 1 [.bool sh23, .slice ah23 nh23 ch23, .slice Ah23 Nh23 Ch23] rfl rfl Blls4.news ?_ (by omega) ?_ ?_ ?_ _ rfl ?_
                  · intro u hu; simp only [List.mem_cons, List.mem_nil_iff, or_false] at hu; rcases hu with rfl | rfl | rfl <;> rfl
                  · unfold maxLen; (try simp only [List.length_append, List.length_cons, List.length_nil]); omega
                  · (try simp only [List.length_append, List.length_cons, List.length_nil]); omega
                  · exact hs.size
                  intro gsh capsh w56 hown1 hgrow hat hlt_
                  have hk_ := KeepD.owns hown0 hgrow (by decide)
                  have ho := owns_onlyT hown0 hgrow
                  replace hs := hs.grown hgrow hs.size (fun k hk => (hown0.lt k hk).1)
                  replace Osh := OwnR.push' PC.kept ho1 ho2 ho3 (x := ((fe8 : Int) : Rat) / ((te8 : Int) : Rat)) rfl ⟨_, _, _, rfl, h23⟩ (by simp) hown1 hk_
                  replace Blc := Blc.only ho (by decide)
                  have Ap_sh_y1 := Ap_sh_y.app hat Bly.lt
                  replace Bly := Bly.grown hgrow Ap_sh_y.ne
                  replace Ap_sh_y := Ap_sh_y1
                  clear Ap_sh_y1
                  have Ap_sh_s1 := Ap_sh_s.app hat Bls.lt
                  replace Bls := Bls.grown hgrow Ap_sh_s.ne
                  replace Ap_sh_s := Ap_sh_s1
                  clear Ap_sh_s1
                  replace he11a := he11a.keep hk_
                  replace he14a := he14a.keep hk_
                  replace h17 := h17.keep hk_
                  replace he20a := he20a.keep hk_
                  replace h23 := h23.keep hk_
                  have Aq1 := (Aq_ow_sh.symm.app hat Oow (Nat.le_refl _)).symm
                  replace Oow := Oow.grown PC.kept hgrow Aq_ow_sh.symm.or hk_
                  replace Aq_ow_sh := Aq1
                  clear Aq1
                  clear hk_ ho ho1 ho2 ho3 hown0 hown1 hgrow hat hlt_ Blls4
                  go_wp2
                  go_roundw
                  case rel => exact ⟨k + 1, by omega, by go_num, (congrArg _ (upT_no (by simpa using q24H.out)).symm), hs, by rw [ownK_new (show 0 < k by omega) q22H.out]; exact Oow, by rw [shK_next Hte8.out Hfe8.out]; exact Osh, Aq_ow_sh⟩
                  all_goals first | (simp [intOf]; done) | (simp [intOf]; omega)
          · have q9d : ((0 : Int) < (k : Int)) = False := eq_false (by omega)
            refine U_region (S := fun w' => True) (by kernel_rfl) 15 ?_
            refine AnyU.abs ?_
            intro w44 hW
            have hb : Below w43.heap.size w43 w44 := by rw [hW]; exact bDrew _
            replace hs := bStep hs hb
            replace Blc := Blc.mono hb
            replace Oow := Oow.mono PC.kept hb
            replace Osh := Osh.mono PC.kept hb
            clear hb hW
            have hH := (show True from True.intro)
            refine U_takeN (i := 0) (d := 89) (v := ?_) rfl rfl rfl (by kernel_rfl) (by kernel_rfl) (by kernel_rfl) (fun _ _ _ h => h) (Or.inl ⟨by rfl, ?_⟩) hH ?_
            rotate_left
            · intro w hSw
              try dsimp only at hSw
              go_simp
              try with_reducible rfl
            simp only [LY]
            refine U_takeN (i := 1) (d := 90) (v := ?_) rfl rfl rfl (by kernel_rfl) (by kernel_rfl) (by kernel_rfl) (fun _ _ _ h => h) (Or.inl ⟨by rfl, ?_⟩) hH ?_
            rotate_left
            · intro w hSw
              try dsimp only at hSw
              go_simp
              try with_reducible rfl
            simp only [LY]
            refine U_takeN (i := 2) (d := 91) (v := ?_) rfl rfl rfl (by kernel_rfl) (by kernel_rfl) (by kernel_rfl) (fun _ _ _ h => h) (Or.inl ⟨by rfl, ?_⟩) hH ?_
            rotate_left
            · intro w hSw
              try dsimp only at hSw
              go_simp
              try with_reducible rfl
            simp only [LY]
            refine U_takeN (i := 3) (d := 92) (v := undef) rfl rfl rfl (by kernel_rfl) (by kernel_rfl) (by kernel_rfl) (fun _ _ _ h => h) (Or.inr ⟨by rfl, rfl⟩) hH ?_
            simp only [LY]
            refine U_takeN (i := 4) (d := 93) (v := undef) rfl rfl rfl (by kernel_rfl) (by kernel_rfl) (by kernel_rfl) (fun _ _ _ h => h) (Or.inr ⟨by rfl, rfl⟩) hH ?_
            simp only [LY]
            refine U_takeN (i := 5) (d := 94) (v := undef) rfl rfl rfl (by kernel_rfl) (by kernel_rfl) (by kernel_rfl) (fun _ _ _ h => h) (Or.inr ⟨by rfl, rfl⟩) hH ?_
            simp only [LY]
            refine U_takeN (i := 6) (d := 95) (v := undef) rfl rfl rfl (by kernel_rfl) (by kernel_rfl) (by kernel_rfl) (fun _ _ _ h => h) (Or.inr ⟨by rfl, rfl⟩) hH ?_
            simp only [LY]
            refine U_takeN (i := 7) (d := 96) (v := undef) rfl rfl rfl (by kernel_rfl) (by kernel_rfl) (by kernel_rfl) (fun _ _ _ h => h) (Or.inr ⟨by rfl, rfl⟩) hH ?_
            simp only [LY]
            refine U_takeN (i := 8) (d := 97) (v := undef) rfl rfl rfl (by kernel_rfl) (by kernel_rfl) (by kernel_rfl) (fun _ _ _ h => h) (Or.inr ⟨by rfl, rfl⟩) hH ?_
            simp only [LY]
            refine U_takeN (i := 9) (d := 98) (v := undef) rfl rfl rfl (by kernel_rfl) (by kernel_rfl) (by kernel_rfl) (fun _ _ _ h => h) (Or.inr ⟨by rfl, rfl⟩) hH ?_
            simp only [LY]
            refine U_takeN (i := 10) (d := 99) (v := undef) rfl rfl rfl (by kernel_rfl) (by kernel_rfl) (by kernel_rfl) (fun _ _ _ h => h) (Or.inr ⟨by rfl, rfl⟩) hH ?_
            simp only [LY]
            refine U_takeN (i := 11) (d := 100) (v := undef) rfl rfl rfl (by kernel_rfl) (by kernel_rfl) (by kernel_rfl) (fun _ _ _ h => h) (Or.inr ⟨by rfl, rfl⟩) hH ?_
            simp only [LY]
            clear hH
            refine U_one (i := 12) (by kernel_rfl) rfl (fun K hK => ?_)
            go_simp
            refine hK.out _ _ True.intro (fun hH => ?_)
            clear hK K
            try simp only [LY]
            refine U_takeN (i := 13) (d := 102) (v := undef) rfl rfl rfl (by kernel_rfl) (by kernel_rfl) (by kernel_rfl) (fun _ _ _ h => h) (Or.inr ⟨by rfl, rfl⟩) hH ?_
            simp only [LY]
            refine U_takeN (i := 14) (d := 103) (v := ?_) rfl rfl rfl (by kernel_rfl) (by kernel_rfl) (by kernel_rfl) (fun _ _ _ h => h) (Or.inl ⟨by rfl, ?_⟩) hH ?_
            rotate_left
            · intro w hSw
              try dsimp only at hSw
              go_simp
              try with_reducible rfl
            simp only [LY]
            clear hH
            refine U_endN (by kernel_rfl) ?_
            go_upto_if 107 with (fail)
            go_cut [20] (fun kv wz => kv = .int .i64 vv ∧ Below w22.heap.size w22 wz ∧ Bx wz (wr.heap.size) 48 #[.int .i64 te8, .int .i64 fe8] ∧ OwnR w22.heap.size 26 3 PC wz u15 ((ownK O k)) ∧ OwnR w22.heap.size 26 3 PC wz u16 ((shK A k)))
            case first => as_aux_lemma =>
              by_cases q10 : k < O.length
              · have q10d : ((k : Int) < (O.length : Int)) = True := eq_true (by omega)
                try simp only [q10b, q10n]
                obtain ⟨bbe11, ooe11, cce11, hve11, Ee11, le11⟩ := rowW8_at (HO1.out.mono W8C.kept (bStep HB0_5.out hs)) (show k < O.length by omega)
                obtain ⟨rfl, rfl⟩ := sliceE hve11
                obtain ⟨ze11, Hze11⟩ : ∃ z : Int, z = nthI O k := ⟨_, rfl⟩
                rw [← Hze11] at Ee11
                have bze11 : 0 ≤ ze11 ∧ ze11 ≤ 255 := by rw [Hze11]; exact HOO.out _ (List.mem_of_getElem? (nthI_some (show k < O.length by omega)))
                obtain ⟨bze111, bze112⟩ := bze11
                replace Hze11 := Lib.hid Hze11.symm
                go_wp2_with fail
                go_meet
                exact ⟨(congrArg _ (Hze11.out.symm.trans ((othI_in (show k < O.length by omega)).symm.trans HVV.out))), hs, Blc, Oow, Osh⟩
              · have q10d : ((k : Int) < (O.length : Int)) = False := eq_false (by omega)
                try simp only [q10b, q10n]
                go_wp2_with fail
                go_meet
                exact ⟨(congrArg _ ((othI_out (show ¬ k < O.length by omega)).symm.trans HVV.out)), hs, Blc, Oow, Osh⟩
            case rest =>
              clear hs Blc Oow Osh
              obtain ⟨rfl, hs, Blc, Oow, Osh⟩ := hcut
              go_wp2_with fail
              with_reducible refine (l8_part (q := ownV O k) _ (by unfold ownV; rw [HVV.out]) (by omega) (by omega) (by decide) (by decide)).mono ?_
              rintro e w45 ⟨_, rfl, h10, hb⟩
              obtain ⟨sh10, ah10, nh10, ch10, Ah10, Nh10, Ch10, rfl⟩ := h10.shape
              replace hs := bStep hs hb
              replace Blc := Blc.mono hb
              replace Oow := Oow.mono PC.kept hb
              replace Osh := Osh.mono PC.kept hb
              clear hb
              go_upto_region 25 with fail
              refine Code.abs ?_
              intro w46 hW
              have hG : Gr [] w45 w46 := by rw [hW]; exact (Gr.refl _ _).alloc
              have hbw : Below w22.heap.size w45 w46 := hG.below0 hs.size
              have hk : KeepD w45 w46 := hG.keep True.intro
              have sz_w46 : w22.heap.size ≤ w45.heap.size := hs.size
              have nc_w46 : wr.heap.size < w45.heap.size := Blc.lt
              have Bly : Bx w46 (w45.heap.size) 26 #[.bool sh10, .slice ah10 nh10 ch10, .slice Ah10 Nh10 Ch10] := by rw [hW]; exact (Bx.new0 _ _ _)
              have Ap_ow_y := Oow.ap (g := w45.heap.size) (by omega)
              have Ap_sh_y := Osh.ap (g := w45.heap.size) (by omega)
              replace hs := hs.trans hbw
              replace Blc := hG.bx Blc notMem0
              replace h10 := h10.keep hk
              replace Oow := Oow.mono PC.kept (hG.below0 (Nat.le_refl _))
              replace Osh := Osh.mono PC.kept (hG.below0 (Nat.le_refl _))
              clear hW hG hk hbw
              have hz_w46 : w45.heap.size < w46.heap.size := Bly.lt
              have q11 : ¬ (0 < k) := q9
              have q11d : ((0 : Int) < (k : Int)) = False := eq_false (by omega)
              refine U_region (S := fun w' => True) (by kernel_rfl) 12 ?_
              refine AnyU.abs ?_
              intro w47 hW
              have hb : Below w46.heap.size w46 w47 := by rw [hW]; exact bDrew _
              replace hs := bStep hs hb
              replace Blc := Blc.mono hb
              replace Bly := Bly.mono hb
              replace h10 := h10.mono hb
              replace Oow := Oow.mono PC.kept hb
              replace Osh := Osh.mono PC.kept hb
              clear hb hW
              have hH := (show True from True.intro)
              refine U_takeN (i := 0) (d := 115) (v := ?_) rfl rfl rfl (by kernel_rfl) (by kernel_rfl) (by kernel_rfl) (fun _ _ _ h => h) (Or.inl ⟨by rfl, ?_⟩) hH ?_
              rotate_left
              · intro w hSw
                try dsimp only at hSw
                go_simp
                try with_reducible rfl
              simp only [LY]
              refine U_takeN (i := 1) (d := 116) (v := ?_) rfl rfl rfl (by kernel_rfl) (by kernel_rfl) (by kernel_rfl) (fun _ _ _ h => h) (Or.inl ⟨by rfl, ?_⟩) hH ?_
              rotate_left
              · intro w hSw
                try dsimp only at hSw
                go_simp
                try with_reducible rfl
              simp only [LY]
              refine U_takeN (i := 2) (d := 117) (v := ?_) rfl rfl rfl (by kernel_rfl) (by kernel_rfl) (by kernel_rfl) (fun _ _ _ h => h) (Or.inl ⟨by rfl, ?_⟩) hH ?_
              rotate_left
              · intro w hSw
                try dsimp only at hSw
                go_simp
                try with_reducible rfl
              simp only [LY]
              refine U_takeN (i := 3) (d := 118) (v := undef) rfl rfl rfl (by kernel_rfl) (by kernel_rfl) (by kernel_rfl) (fun _ _ _ h => h) (Or.inr ⟨by rfl, rfl⟩) hH ?_
              simp only [LY]
              refine U_takeN (i := 4) (d := 119) (v := undef) rfl rfl rfl (by kernel_rfl) (by kernel_rfl) (by kernel_rfl) (fun _ _ _ h => h) (Or.inr ⟨by rfl, rfl⟩) hH ?_
              simp only [LY]
              refine U_takeN (i := 5) (d := 120) (v := undef) rfl rfl rfl (by kernel_rfl) (by kernel_rfl) (by kernel_rfl) (fun _ _ _ h => h) (Or.inr ⟨by rfl, rfl⟩) hH ?_
              simp only [LY]
              refine U_takeN (i := 6) (d := 121) (v := undef) rfl rfl rfl (by kernel_rfl) (by kernel_rfl) (by kernel_rfl) (fun _ _ _ h => h) (Or.inr ⟨by rfl, rfl⟩) hH ?_
              simp only [LY]
              refine U_takeN (i := 7) (d := 122) (v := undef) rfl rfl rfl (by kernel_rfl) (by kernel_rfl) (by kernel_rfl) (fun _ _ _ h => h) (Or.inr ⟨by rfl, rfl⟩) hH ?_
              simp only [LY]
              refine U_takeN (i := 8) (d := 123) (v := undef) rfl rfl rfl (by kernel_rfl) (by kernel_rfl) (by kernel_rfl) (fun _ _ _ h => h) (Or.inr ⟨by rfl, rfl⟩) hH ?_
              simp only [LY]
              clear hH
              refine U_one (i := 9) (by kernel_rfl) rfl (fun K hK => ?_)
              go_simp
              refine hK.out _ _ True.intro (fun hH => ?_)
              clear hK K
              try simp only [LY]
              refine U_takeN (i := 10) (d := 125) (v := undef) rfl rfl rfl (by kernel_rfl) (by kernel_rfl) (by kernel_rfl) (fun _ _ _ h => h) (Or.inr ⟨by rfl, rfl⟩) hH ?_
              simp only [LY]
              refine U_takeN (i := 11) (d := 126) (v := ?_) rfl rfl rfl (by kernel_rfl) (by kernel_rfl) (by kernel_rfl) (fun _ _ _ h => h) (Or.inl ⟨by rfl, ?_⟩) hH ?_
              rotate_left
              · intro w hSw
                try dsimp only at hSw
                go_simp
                try with_reducible rfl
              simp only [LY]
              clear hH
              refine U_endN (by kernel_rfl) ?_
              have cy_0 : w47.cell? ⟨w45.heap.size, 0, none⟩ = some (.bool sh10) := Bly.at 0 rfl
              have cy_1 : w47.cell? ⟨w45.heap.size, 1, none⟩ = some (.slice ah10 nh10 ch10) := Bly.at 1 rfl
              have cy_2 : w47.cell? ⟨w45.heap.size, 2, none⟩ = some (.slice Ah10 Nh10 Ch10) := Bly.at 2 rfl
              have Ly : w45.heap.size < w47.heap.size := Bly.lt
              go_wp2_with (at_builtin; refine wpList.stop ?_)
              refine ⟨?_⟩
              clear cy_0 cy_1 cy_2 Ly
              refine wpList.abs ?_
              intro w48 hW
              have hG : Gr [] w47 w48 := by rw [hW]; exact (Gr.refl _ _).alloc
              have hbw : Below w22.heap.size w47 w48 := hG.below0 hs.size
              have hk : KeepD w47 w48 := hG.keep True.intro
              have sz_w48 : w22.heap.size ≤ w47.heap.size := hs.size
              have nc_w48 : wr.heap.size < w47.heap.size := Blc.lt
              have ny_w48 : w45.heap.size < w47.heap.size := Bly.lt
              have Blls : Bx w48 (w47.heap.size) 26 #[.bool sh10, .slice ah10 nh10 ch10, .slice Ah10 Nh10 Ch10] := by rw [hW]; exact (Bx.new0 _ _ _)
              replace hs := hs.trans hbw
              replace Blc := hG.bx Blc notMem0
              replace Bly := hG.bx Bly notMem0
              replace h10 := h10.keep hk
              replace Oow := Oow.mono PC.kept (hG.below0 (Nat.le_refl _))
              replace Osh := Osh.mono PC.kept (hG.below0 (Nat.le_refl _))
              clear hW hG hk hbw
              have hz_w48 : w47.heap.size < w48.heap.size := Blls.lt
              obtain ⟨css, ho1, ho2, ho3, hown0⟩ := Oow
              refine wpList_append_lies _ rfl _ _ _ rfl w22.heap.size 26 q0 _ 3 56 Try.underlying41 hq hx0 hx1 hx2 rfl (by omega) _ _ css.flatten rfl hown0 ⟨w47.heap.size, 0, none⟩ 1 1 [.bool sh10, .slice ah10 nh10 ch10, .slice Ah10 Nh10 Ch10] rfl rfl Blls.news ?_ (by omega) ?_ ?_ ?_ _ rfl ?_
              · intro u hu; simp only [List.mem_cons, List.mem_nil_iff, or_false] at hu; rcases hu with rfl | rfl | rfl <;> rfl
              · unfold maxLen; (try simp only [List.length_append, List.length_cons, List.length_nil]); omega
              · (try simp only [List.length_append, List.length_cons, List.length_nil]); omega
              · exact hs.size
              intro gow capow w49 hown1 hgrow hat hlt_
              have hk_ := KeepD.owns hown0 hgrow (by decide)
              have ho := owns_onlyT hown0 hgrow
              replace hs := hs.grown hgrow hs.size (fun k hk => (hown0.lt k hk).1)
              replace Oow := OwnR.push' PC.kept ho1 ho2 ho3 (x := ownV O k) rfl ⟨_, _, _, rfl, h10⟩ (by simp) hown1 hk_
              replace Blc := Blc.only ho (by decide)
              have Ap_ow_y1 := Ap_ow_y.app hat Bly.lt
              replace Bly := Bly.grown hgrow Ap_ow_y.ne
              replace Ap_ow_y := Ap_ow_y1
              clear Ap_ow_y1
              replace h10 := h10.keep hk_
              have Aq1 := Aq_ow_sh.app hat Osh (Nat.le_refl _)
              replace Osh := Osh.grown PC.kept hgrow Aq_ow_sh.or hk_
              replace Aq_ow_sh := Aq1
              clear Aq1
              clear hk_ ho ho1 ho2 ho3 hown0 hown1 hgrow hat hlt_ Blls
              have cc_0 : w49.cell? ⟨wr.heap.size, 0, none⟩ = some (.int .i64 te8) := Blc.at 0 rfl
              have cc_1 : w49.cell? ⟨wr.heap.size, 1, none⟩ = some (.int .i64 fe8) := Blc.at 1 rfl
              have Lc : wr.heap.size < w49.heap.size := Blc.lt
              go_wp2_with fail
              clear cc_0 cc_1 Lc
              with_reducible refine (l8_part (n := fe8) (d := te8) _ rfl (by omega) (by omega) (by omega) (by omega)).mono ?_
              rintro e w50 ⟨_, rfl, h12, hb⟩
              obtain ⟨sh12, ah12, nh12, ch12, Ah12, Nh12, Ch12, rfl⟩ := h12.shape
              replace hs := bStep hs hb
              replace Blc := Blc.mono hb
              replace Bly := Bly.mono hb
              replace h10 := h10.mono hb
              replace Oow := Oow.mono PC.kept hb
              replace Osh := Osh.mono PC.kept hb
              clear hb
              go_upto_region 29 with fail
              refine Code.abs ?_
              intro w51 hW
              have hG : Gr [] w50 w51 := by rw [hW]; exact (Gr.refl _ _).alloc
              have hbw : Below w22.heap.size w50 w51 := hG.below0 hs.size
              have hk : KeepD w50 w51 := hG.keep True.intro
              have sz_w51 : w22.heap.size ≤ w50.heap.size := hs.size
              have nc_w51 : wr.heap.size < w50.heap.size := Blc.lt
              have ny_w51 : w45.heap.size < w50.heap.size := Bly.lt
              have Bls : Bx w51 (w50.heap.size) 26 #[.bool sh12, .slice ah12 nh12 ch12, .slice Ah12 Nh12 Ch12] := by rw [hW]; exact (Bx.new0 _ _ _)
              have Ap_ow_s := Oow.ap (g := w50.heap.size) (by omega)
              have Ap_sh_s := Osh.ap (g := w50.heap.size) (by omega)
              replace hs := hs.trans hbw
              replace Blc := hG.bx Blc notMem0
              replace Bly := hG.bx Bly notMem0
              replace h10 := h10.keep hk
              replace h12 := h12.keep hk
              replace Oow := Oow.mono PC.kept (hG.below0 (Nat.le_refl _))
              replace Osh := Osh.mono PC.kept (hG.below0 (Nat.le_refl _))
              clear hW hG hk hbw
              have hz_w51 : w50.heap.size < w51.heap.size := Bls.lt
              have q13 : upT A k = true := (by rw [show k = 0 by omega]; rfl)
              obtain rfl : b6 = true := by rw [Hb6.out]; exact q13
              have q13H := Lib.hid q13
              clear q13
              have q14 : k = 0 := (by omega)
              have q14b : ((k : Int) == 0) = true := beq_iff_eq.2 (by omega)
              have q14n : ((k : Int) != 0) = false := bne_eq_false_iff_eq.2 (by omega)
              have q14H := Lib.hid q14
              clear q14
              refine U_region (S := fun w' => True) (by kernel_rfl) 16 ?_
              refine AnyU.abs ?_
              intro w52 hW
              have hb : Below w51.heap.size w51 w52 := by rw [hW]; exact bDrew _
              replace hs := bStep hs hb
              replace Blc := Blc.mono hb
              replace Bly := Bly.mono hb
              replace Bls := Bls.mono hb
              replace h10 := h10.mono hb
              replace h12 := h12.mono hb
              replace Oow := Oow.mono PC.kept hb
              replace Osh := Osh.mono PC.kept hb
              clear hb hW
              have hH := (show True from True.intro)
              refine U_takeN (i := 0) (d := 141) (v := ?_) rfl rfl rfl (by kernel_rfl) (by kernel_rfl) (by kernel_rfl) (fun _ _ _ h => h) (Or.inl ⟨by rfl, ?_⟩) hH ?_
              rotate_left
              · intro w hSw
                try dsimp only at hSw
                go_simp
                try with_reducible rfl
              simp only [LY]
              refine U_takeN (i := 1) (d := 142) (v := ?_) rfl rfl rfl (by kernel_rfl) (by kernel_rfl) (by kernel_rfl) (fun _ _ _ h => h) (Or.inl ⟨by rfl, ?_⟩) hH ?_
              rotate_left
              · intro w hSw
                try dsimp only at hSw
                go_simp
                try with_reducible rfl
              simp only [LY]
              refine U_takeN (i := 2) (d := 143) (v := ?_) rfl rfl rfl (by kernel_rfl) (by kernel_rfl) (by kernel_rfl) (fun _ _ _ h => h) (Or.inl ⟨by rfl, ?_⟩) hH ?_
              rotate_left
              · intro w hSw
                try dsimp only at hSw
                go_simp
                try with_reducible rfl
              simp only [LY]
              refine U_takeN (i := 3) (d := 144) (v := ?_) rfl rfl rfl (by kernel_rfl) (by kernel_rfl) (by kernel_rfl) (fun _ _ _ h => h) (Or.inl ⟨by rfl, ?_⟩) hH ?_
              rotate_left
              · intro w hSw
                try dsimp only at hSw
                go_simp
                try with_reducible rfl
              simp only [LY]
              refine U_takeN (i := 4) (d := 145) (v := ?_) rfl rfl rfl (by kernel_rfl) (by kernel_rfl) (by kernel_rfl) (fun _ _ _ h => h) (Or.inl ⟨by rfl, ?_⟩) hH ?_
              rotate_left
              · intro w hSw
                try dsimp only at hSw
                go_simp
                try with_reducible rfl
              simp only [LY]
              refine U_takeN (i := 5) (d := 146) (v := undef) rfl rfl rfl (by kernel_rfl) (by kernel_rfl) (by kernel_rfl) (fun _ _ _ h => h) (Or.inr ⟨by rfl, rfl⟩) hH ?_
              simp only [LY]
              refine U_takeN (i := 6) (d := 147) (v := undef) rfl rfl rfl (by kernel_rfl) (by kernel_rfl) (by kernel_rfl) (fun _ _ _ h => h) (Or.inr ⟨by rfl, rfl⟩) hH ?_
              simp only [LY]
              refine U_takeN (i := 7) (d := 148) (v := undef) rfl rfl rfl (by kernel_rfl) (by kernel_rfl) (by kernel_rfl) (fun _ _ _ h => h) (Or.inr ⟨by rfl, rfl⟩) hH ?_
              simp only [LY]
              refine U_takeN (i := 8) (d := 149) (v := undef) rfl rfl rfl (by kernel_rfl) (by kernel_rfl) (by kernel_rfl) (fun _ _ _ h => h) (Or.inr ⟨by rfl, rfl⟩) hH ?_
              simp only [LY]
              refine U_takeN (i := 9) (d := 150) (v := undef) rfl rfl rfl (by kernel_rfl) (by kernel_rfl) (by kernel_rfl) (fun _ _ _ h => h) (Or.inr ⟨by rfl, rfl⟩) hH ?_
              simp only [LY]
              refine U_takeN (i := 10) (d := 151) (v := undef) rfl rfl rfl (by kernel_rfl) (by kernel_rfl) (by kernel_rfl) (fun _ _ _ h => h) (Or.inr ⟨by rfl, rfl⟩) hH ?_
              simp only [LY]
              clear hH
              refine U_one (i := 11) (by kernel_rfl) rfl (fun K hK => ?_)
              go_simp
              refine hK.out _ _ True.intro (fun hH => ?_)
              clear hK K
              try simp only [LY]
              refine U_takeN (i := 12) (d := 153) (v := undef) rfl rfl rfl (by kernel_rfl) (by kernel_rfl) (by kernel_rfl) (fun _ _ _ h => h) (Or.inr ⟨by rfl, rfl⟩) hH ?_
              simp only [LY]
              refine U_takeN (i := 13) (d := 154) (v := ?_) rfl rfl rfl (by kernel_rfl) (by kernel_rfl) (by kernel_rfl) (fun _ _ _ h => h) (Or.inl ⟨by rfl, ?_⟩) hH ?_
              rotate_left
              · intro w hSw
                try dsimp only at hSw
                go_simp
                try with_reducible rfl
              simp only [LY]
              refine U_takeN (i := 14) (d := 155) (v := ?_) rfl rfl rfl (by kernel_rfl) (by kernel_rfl) (by kernel_rfl) (fun _ _ _ h => h) (Or.inl ⟨by rfl, ?_⟩) hH ?_
              rotate_left
              · intro w hSw
                try dsimp only at hSw
                go_simp
                try with_reducible rfl
              simp only [LY]
              refine U_takeN (i := 15) (d := 17) (v := ?_) rfl rfl rfl (by kernel_rfl) (by kernel_rfl) (by kernel_rfl) (fun _ _ _ h => h) (Or.inl ⟨by rfl, ?_⟩) hH ?_
              rotate_left
              · intro w hSw
                try dsimp only at hSw
                go_simp
                try with_reducible rfl
              simp only [LY]
              clear hH
              refine U_endN (by kernel_rfl) ?_
              have cs_0 : w52.cell? ⟨w50.heap.size, 0, none⟩ = some (.bool sh12) := Bls.at 0 rfl
              have cs_1 : w52.cell? ⟨w50.heap.size, 1, none⟩ = some (.slice ah12 nh12 ch12) := Bls.at 1 rfl
              have cs_2 : w52.cell? ⟨w50.heap.size, 2, none⟩ = some (.slice Ah12 Nh12 Ch12) := Bls.at 2 rfl
              have Ls : w50.heap.size < w52.heap.size := Bls.lt
              go_wp2_with (at_builtin; refine wpList.stop ?_)
              refine ⟨?_⟩
              clear cs_0 cs_1 cs_2 Ls
              refine wpList.abs ?_
              intro w53 hW
              have hG : Gr [] w52 w53 := by rw [hW]; exact (Gr.refl _ _).alloc
              have hbw : Below w22.heap.size w52 w53 := hG.below0 hs.size
              have hk : KeepD w52 w53 := hG.keep True.intro
              have sz_w53 : w22.heap.size ≤ w52.heap.size := hs.size
              have nc_w53 : wr.heap.size < w52.heap.size := Blc.lt
              have ny_w53 : w45.heap.size < w52.heap.size := Bly.lt
              have ns_w53 : w50.heap.size < w52.heap.size := Bls.lt
              have Blls4 : Bx w53 (w52.heap.size) 26 #[.bool sh12, .slice ah12 nh12 ch12, .slice Ah12 Nh12 Ch12] := by rw [hW]; exact (Bx.new0 _ _ _)
              replace hs := hs.trans hbw
              replace Blc := hG.bx Blc notMem0
              replace Bly := hG.bx Bly notMem0
              replace Bls := hG.bx Bls notMem0
              replace h10 := h10.keep hk
              replace h12 := h12.keep hk
              replace Oow := Oow.mono PC.kept (hG.below0 (Nat.le_refl _))
              replace Osh := Osh.mono PC.kept (hG.below0 (Nat.le_refl _))
              clear hW hG hk hbw
              have hz_w53 : w52.heap.size < w53.heap.size := Blls4.lt
              obtain ⟨css, ho1, ho2, ho3, hown0⟩ := Osh
              refine wpList_append_lies _ rfl _ _ _ rfl w22.heap.size 26 q0 _ 3 56 Try.underlying41 hq hx0 hx1 hx2 rfl (by omega) _ _ css.flatten rfl hown0 ⟨w52.heap.size, 0, none⟩ 1 1 [.bool sh12, .slice ah12 nh12 ch12, .slice Ah12 Nh12 Ch12] rfl rfl Blls4.news ?_ (by omega) ?_ ?_ ?_ _ rfl ?_
              · intro u hu; simp only [List.mem_cons, List.mem_nil_iff, or_false] at hu; rcases hu with rfl | rfl | rfl <;> rfl
              · unfold maxLen; (try simp only [List.length_append, List.length_cons, List.length_nil]); omega
              · (try simp only [List.length_append, List.length_cons, List.length_nil]); omega
              · exact hs.size
              intro gsh capsh w54 hown1 hgrow hat hlt_
              have hk_ := KeepD.owns hown0 hgrow (by decide)
              have ho := owns_onlyT hown0 hgrow
              replace hs := hs.grown hgrow hs.size (fun k hk => (hown0.lt k hk).1)
              replace Osh := OwnR.push' PC.kept ho1 ho2 ho3 (x := ((fe8 : Int) : Rat) / ((te8 : Int) : Rat)) rfl ⟨_, _, _, rfl, h12⟩ (by simp) hown1 hk_
              replace Blc := Blc.only ho (by decide)
              have Ap_sh_y1 := Ap_sh_y.app hat Bly.lt
              replace Bly := Bly.grown hgrow Ap_sh_y.ne
              replace Ap_sh_y := Ap_sh_y1
              clear Ap_sh_y1
              have Ap_sh_s1 := Ap_sh_s.app hat Bls.lt
              replace Bls := Bls.grown hgrow Ap_sh_s.ne
              replace Ap_sh_s := Ap_sh_s1
              clear Ap_sh_s1
              replace h10 := h10.keep hk_
              replace h12 := h12.keep hk_
              have Aq1 := (Aq_ow_sh.symm.app hat Oow (Nat.le_refl _)).symm
              replace Oow := Oow.grown PC.kept hgrow Aq_ow_sh.symm.or hk_
              replace Aq_ow_sh := Aq1
              clear Aq1
              clear hk_ ho ho1 ho2 ho3 hown0 hown1 hgrow hat hlt_ Blls4
              go_wp2
              go_roundw
              case rel => exact ⟨k + 1, by omega, by go_num, (congrArg _ (upT_zero (by omega)).symm), hs, by rw [ownK_first (show ¬ 0 < k by omega)]; exact Oow, by rw [shK_next Hte8.out Hfe8.out]; exact Osh, Aq_ow_sh⟩
              all_goals first | (simp [intOf]; done) | (simp [intOf]; omega)
        · have q7d : ((k : Int) < (A.length : Int)) = False := eq_false (by omega)
          obtain rfl : k = A.length := by omega
          have hN := Oow.rows
          clear Oow Osh lno1 lno2 lns1 lns2
          obtain rfl : b6 = rz := Hb6.out.trans HRZ.out
          obtain ⟨bhN, ohN, khN, rfl, hN1, hN2, -⟩ := hN.open_ (by rw [ownK_len]; omega)
          have lnN1 : (ownK O A.length).length ≤ A.length := Nat.le_of_eq (ownK_len O _)
          have lnN2 : A.length ≤ (ownK O A.length).length := Nat.le_of_eq (ownK_len O _).symm
          have ha := rowsJ ClC.kept _ _ _ Fha.out hs
          have hx3 := rowsJ PC.kept _ _ _ Fhx3.out hs
          replace hs := bStep HB0_5.out hs
          go_wp2_with fail
          with_reducible refine (al_Misfit _ ha.toI hx3 (by omega) (by omega) HOK.out (by omega) (by omega) HXZ.out HBE.out).mono ?_
          rintro e w43 ⟨_, rfl, h8, hb⟩
          obtain ⟨sh8, ah8, nh8, ch8, Ah8, Nh8, Ch8, rfl⟩ := h8.shape
          replace hs := bStep hs hb
          replace hN := rowsJ PC.kept _ _ _ hN hb
          replace ha := rowsJ ClC.kept _ _ _ ha hb
          replace hx3 := rowsJ PC.kept _ _ _ hx3 hb
          clear hb
          go_wp2_with fail
          refine Calls.abs ?_
          intro w44 hW
          have hG : Gr [] w43 w44 := by rw [hW]; exact (Gr.refl _ _).alloc
          have hbw : Below w.heap.size w43 w44 := hG.below0 hs.size
          have hk : KeepD w43 w44 := hG.keep True.intro
          have sz_w44 : w.heap.size ≤ w43.heap.size := hs.size
          have nhN_w44 : bhN < w43.heap.size := hN.lt (by omega)
          have nha_w44 : bha < w43.heap.size := ha.lt (by omega)
          have Blbest : Bx w44 (w43.heap.size) 26 #[.bool sh8, .slice ah8 nh8 ch8, .slice Ah8 Nh8 Ch8] := by rw [hW]; exact (Bx.new0 _ _ _)
          replace hs := hs.trans hbw
          replace hN := rowsJ PC.kept _ _ _ hN (hG.below0 (Nat.le_refl _))
          replace ha := rowsJ ClC.kept _ _ _ ha (hG.below0 (Nat.le_refl _))
          replace hx3 := rowsJ PC.kept _ _ _ hx3 (hG.below0 (Nat.le_refl _))
          replace h8 := h8.keep hk
          clear hW hG hk hbw
          have hz_w44 : w43.heap.size < w44.heap.size := Blbest.lt
          with_reducible refine (al_Misfit _ ha.toI hN (by omega) (by omega) HOK.out (Nat.le_of_eq (ownK_len _ _)) (Nat.le_of_eq (ownK_len _ _).symm) (ownK_sz HOO.out _) HMM.out).mono ?_
          rintro e w45 ⟨_, rfl, h9, hb⟩
          obtain ⟨sh9, ah9, nh9, ch9, Ah9, Nh9, Ch9, rfl⟩ := h9.shape
          replace hs := bStep hs hb
          replace Blbest := Blbest.mono hb
          replace h8 := h8.mono hb
          replace hN := rowsJ PC.kept _ _ _ hN hb
          replace ha := rowsJ ClC.kept _ _ _ ha hb
          replace hx3 := rowsJ PC.kept _ _ _ hx3 hb
          clear hb
          have cbest_0 : w45.cell? ⟨w43.heap.size, 0, none⟩ = some (.bool sh8) := Blbest.at 0 rfl
          have cbest_1 : w45.cell? ⟨w43.heap.size, 1, none⟩ = some (.slice ah8 nh8 ch8) := Blbest.at 1 rfl
          have cbest_2 : w45.cell? ⟨w43.heap.size, 2, none⟩ = some (.slice Ah8 Nh8 Ch8) := Blbest.at 2 rfl
          have Lbest : w43.heap.size < w45.heap.size := Blbest.lt
          go_wp2_with fail
          clear cbest_0 cbest_1 cbest_2 Lbest
          refine Calls.abs ?_
          intro w46 hW
          have hG : Gr [] w45 w46 := by rw [hW]; exact (Gr.refl _ _).alloc
          have hbw : Below w.heap.size w45 w46 := hG.below0 hs.size
          have hk : KeepD w45 w46 := hG.keep True.intro
          have sz_w46 : w.heap.size ≤ w45.heap.size := hs.size
          have nbest_w46 : w43.heap.size < w45.heap.size := Blbest.lt
          have nhN_w46 : bhN < w45.heap.size := hN.lt (by omega)
          have nha_w46 : bha < w45.heap.size := ha.lt (by omega)
          have Blm : Bx w46 (w45.heap.size) 26 #[.bool sh9, .slice ah9 nh9 ch9, .slice Ah9 Nh9 Ch9] := by rw [hW]; exact (Bx.new0 _ _ _)
          replace hs := hs.trans hbw
          replace hN := rowsJ PC.kept _ _ _ hN (hG.below0 (Nat.le_refl _))
          replace ha := rowsJ ClC.kept _ _ _ ha (hG.below0 (Nat.le_refl _))
          replace hx3 := rowsJ PC.kept _ _ _ hx3 (hG.below0 (Nat.le_refl _))
          replace Blbest := hG.bx Blbest notMem0
          replace h8 := h8.keep hk
          replace h9 := h9.keep hk
          clear hW hG hk hbw
          have hz_w46 : w45.heap.size < w46.heap.size := Blm.lt
          with_reducible refine (pCmp h8 h9 (SzQ.fit sbest) (SzQ.fit sm)).mono ?_
          rintro e w47 ⟨rfl, hb⟩
          replace hs := bStep hs hb
          replace Blbest := Blbest.mono hb
          replace Blm := Blm.mono hb
          replace h8 := h8.mono hb
          replace h9 := h9.mono hb
          replace hN := rowsJ PC.kept _ _ _ hN hb
          replace ha := rowsJ ClC.kept _ _ _ ha hb
          replace hx3 := rowsJ PC.kept _ _ _ hx3 hb
          clear hb
          obtain ⟨sg10, Hsg10⟩ : ∃ s : Int, s = sgQ (best - m) := ⟨_, rfl⟩
          rw [← Hsg10]
          replace Hsg10 := Lib.hid Hsg10
          have q11 : ¬ (m < best) := HLE.out
          have q11_ : ¬ (0 < sg10) := by have h := sq_gt best m; rw [← Hsg10.out] at h; exact fun h1 => q11 (h.1 h1)
          have q11H := Lib.hid q11
          clear q11
          have q11d : decide (0 < sg10) = false := decide_eq_false q11_
          have cbest_0 : w47.cell? ⟨w43.heap.size, 0, none⟩ = some (.bool sh8) := Blbest.at 0 rfl
          have cbest_1 : w47.cell? ⟨w43.heap.size, 1, none⟩ = some (.slice ah8 nh8 ch8) := Blbest.at 1 rfl
          have cbest_2 : w47.cell? ⟨w43.heap.size, 2, none⟩ = some (.slice Ah8 Nh8 Ch8) := Blbest.at 2 rfl
          have Lbest : w43.heap.size < w47.heap.size := Blbest.lt
          go_wp2_with fail
          clear cbest_0 cbest_1 cbest_2 Lbest
          with_reducible refine (p_Zero_eq h8 HBZ.out).mono ?_
          rintro e w48 ⟨rfl, hb⟩
          replace hs := bStep hs hb
          replace Blbest := Blbest.mono hb
          replace Blm := Blm.mono hb
          replace h8 := h8.mono hb
          replace h9 := h9.mono hb
          replace hN := rowsJ PC.kept _ _ _ hN hb
          replace ha := rowsJ ClC.kept _ _ _ ha hb
          replace hx3 := rowsJ PC.kept _ _ _ hx3 hb
          clear hb
          go_wp2_with fail
          with_reducible refine (l8_part _ HP.out (by omega) (by omega) (by decide) (by decide)).mono ?_
          rintro e w49 ⟨_, rfl, h12, hb⟩
          obtain ⟨sh12, ah12, nh12, ch12, Ah12, Nh12, Ch12, rfl⟩ := h12.shape
          replace hs := bStep hs hb
          replace Blbest := Blbest.mono hb
          replace Blm := Blm.mono hb
          replace h8 := h8.mono hb
          replace h9 := h9.mono hb
          replace hN := rowsJ PC.kept _ _ _ hN hb
          replace ha := rowsJ ClC.kept _ _ _ ha hb
          replace hx3 := rowsJ PC.kept _ _ _ hx3 hb
          clear hb
          go_wp2_with fail
          with_reducible refine (l8_part _ HU.out (by omega) (by omega) (by decide) (by decide)).mono ?_
          rintro e w50 ⟨_, rfl, h13, hb⟩
          obtain ⟨sh13, ah13, nh13, ch13, Ah13, Nh13, Ch13, rfl⟩ := h13.shape
          replace hs := bStep hs hb
          replace Blbest := Blbest.mono hb
          replace Blm := Blm.mono hb
          replace h8 := h8.mono hb
          replace h9 := h9.mono hb
          replace h12 := h12.mono hb
          replace hN := rowsJ PC.kept _ _ _ hN hb
          replace ha := rowsJ ClC.kept _ _ _ ha hb
          replace hx3 := rowsJ PC.kept _ _ _ hx3 hb
          clear hb
          go_wp2_with fail
          refine Calls.abs ?_
          intro w51 hW
          have hG : Gr [] w50 w51 := by rw [hW]; exact (Gr.refl _ _).alloc.alloc
          have hbw : Below w.heap.size w50 w51 := hG.below0 hs.size
          have hk : KeepD w50 w51 := hG.keep True.intro
          have sz_w51 : w.heap.size ≤ w50.heap.size := hs.size
          have nbest_w51 : w43.heap.size < w50.heap.size := Blbest.lt
          have nm_w51 : w45.heap.size < w50.heap.size := Blm.lt
          have nhN_w51 : bhN < w50.heap.size := hN.lt (by omega)
          have nha_w51 : bha < w50.heap.size := ha.lt (by omega)
          have Blp : Bx w51 (w50.heap.size) 26 #[.bool sh12, .slice ah12 nh12 ch12, .slice Ah12 Nh12 Ch12] := by rw [hW]; exact ((Bx.new0 _ _ _).alloc _)
          have Blc : Bx w51 (w50.heap.size + 1) 26 #[.bool sh13, .slice ah13 nh13 ch13, .slice Ah13 Nh13 Ch13] := by rw [hW]; exact (Bx.new0 _ _ _)
          replace hs := hs.trans hbw
          replace hN := rowsJ PC.kept _ _ _ hN (hG.below0 (Nat.le_refl _))
          replace ha := rowsJ ClC.kept _ _ _ ha (hG.below0 (Nat.le_refl _))
          replace hx3 := rowsJ PC.kept _ _ _ hx3 (hG.below0 (Nat.le_refl _))
          replace Blbest := hG.bx Blbest notMem0
          replace Blm := hG.bx Blm notMem0
          replace h8 := h8.keep hk
          replace h9 := h9.keep hk
          replace h12 := h12.keep hk
          replace h13 := h13.keep hk
          clear hW hG hk hbw
          have hz_w51 : w50.heap.size + 1 < w51.heap.size := Blc.lt
          with_reducible refine (al_Reliable _ ha.toI h12 sp CP.out h13 su CU.out (by omega) (by omega) HOK.out HD.out HR1.out HR2.out).mono ?_
          rintro e w52 ⟨rfl, hb⟩
          replace hs := bStep hs hb
          replace Blbest := Blbest.mono hb
          replace Blm := Blm.mono hb
          replace Blp := Blp.mono hb
          replace Blc := Blc.mono hb
          replace h8 := h8.mono hb
          replace h9 := h9.mono hb
          replace h12 := h12.mono hb
          replace h13 := h13.mono hb
          replace hN := rowsJ PC.kept _ _ _ hN hb
          replace ha := rowsJ ClC.kept _ _ _ ha hb
          replace hx3 := rowsJ PC.kept _ _ _ hx3 hb
          clear hb
          go_upto_if 207 with (fail)
          go_cut [28] (fun kv wz => kv = .int .i64 ((D : Int)) ∧ Below w.heap.size w wz ∧ Bx wz (w43.heap.size) 26 #[.bool sh8, .slice ah8 nh8 ch8, .slice Ah8 Nh8 Ch8] ∧ Bx wz (w45.heap.size) 26 #[.bool sh9, .slice ah9 nh9 ch9, .slice Ah9 Nh9 Ch9] ∧ Bx wz (w50.heap.size) 26 #[.bool sh12, .slice ah12 nh12 ch12, .slice Ah12 Nh12 Ch12] ∧ Bx wz (w50.heap.size + 1) 26 #[.bool sh13, .slice ah13 nh13 ch13, .slice Ah13 Nh13 Ch13] ∧ PV wz (.agg #[.bool sh8, .slice ah8 nh8 ch8, .slice Ah8 Nh8 Ch8]) (best) ∧ PV wz (.agg #[.bool sh9, .slice ah9 nh9 ch9, .slice Ah9 Nh9 Ch9]) (m) ∧ PV wz (.agg #[.bool sh12, .slice ah12 nh12 ch12, .slice Ah12 Nh12 Ch12]) (p) ∧ PV wz (.agg #[.bool sh13, .slice ah13 nh13 ch13, .slice Ah13 Nh13 Ch13]) (u) ∧ Rows 3 26 PC wz (.slice (some ⟨bhN, ohN, none⟩) (ownK O A.length).length khN) ((ownK O A.length)) ∧ Rows 2 48 ClC wz (.slice (some ⟨bha, oha, none⟩) A.length kha) A ∧ Rows 3 26 PC wz (.slice (some ⟨bhx3, ohx3, none⟩) X.length khx3) X)
          case first => as_aux_lemma =>
            by_cases q14 : r2 = 0
            · have q14b : (r2 == 0) = true := beq_iff_eq.2 (by omega)
              have q14n : (r2 != 0) = false := bne_eq_false_iff_eq.2 (by omega)
              have q14H := Lib.hid q14
              clear q14
              try simp only [q14b, q14n]
              go_wp2_with fail
              go_meet
              exact ⟨(congrArg _ (by have h := HRR.out; have h2 := q14H.out; omega)), hs, Blbest, Blm, Blp, Blc, h8, h9, h12, h13, hN, ha, hx3⟩
            · have q14b : (r2 == 0) = false := beq_eq_false_iff_ne.2 (by omega)
              have q14n : (r2 != 0) = true := bne_iff_ne.2 (by omega)
              have q14H := Lib.hid q14
              clear q14
              try simp only [q14b, q14n]
              go_wp2_with fail
              go_meet
              exact ⟨(congrArg _ (by have h := HRR.out; have h2 := q14H.out; omega)), hs, Blbest, Blm, Blp, Blc, h8, h9, h12, h13, hN, ha, hx3⟩
          case rest =>
            clear hs Blbest Blm Blp Blc h8 h9 h12 h13 hN ha hx3
            obtain ⟨rfl, hs, Blbest, Blm, Blp, Blc, h8, h9, h12, h13, hN, ha, hx3⟩ := hcut
            go_wp2
            go_loopw [212] (fun s212 wq => ∃ j : Nat, j ≤ A.length ∧ s212 = .int .i64 j ∧ Below w.heap.size w wq ∧ Bx wq (w43.heap.size) 26 #[.bool sh8, .slice ah8 nh8 ch8, .slice Ah8 Nh8 Ch8] ∧ Bx wq (w45.heap.size) 26 #[.bool sh9, .slice ah9 nh9 ch9, .slice Ah9 Nh9 Ch9] ∧ Bx wq (w50.heap.size) 26 #[.bool sh12, .slice ah12 nh12 ch12, .slice Ah12 Nh12 Ch12] ∧ Bx wq (w50.heap.size + 1) 26 #[.bool sh13, .slice ah13 nh13 ch13, .slice Ah13 Nh13 Ch13] ∧ PV wq (.agg #[.bool sh8, .slice ah8 nh8 ch8, .slice Ah8 Nh8 Ch8]) (best) ∧ PV wq (.agg #[.bool sh9, .slice ah9 nh9 ch9, .slice Ah9 Nh9 Ch9]) (m) ∧ PV wq (.agg #[.bool sh12, .slice ah12 nh12 ch12, .slice Ah12 Nh12 Ch12]) (p) ∧ PV wq (.agg #[.bool sh13, .slice ah13 nh13 ch13, .slice Ah13 Nh13 Ch13]) (u) ∧ Rows 3 26 PC wq (.slice (some ⟨bhN, ohN, none⟩) (ownK O A.length).length khN) ((ownK O A.length)) ∧ Rows 2 48 ClC wq (.slice (some ⟨bha, oha, none⟩) A.length kha) A ∧ Rows 3 26 PC wq (.slice (some ⟨bhx3, ohx3, none⟩) X.length khx3) X) (fun s212 _ => A.length - (intOf s212).toNat)
            case atStart => exact ⟨0, Nat.zero_le _, rfl, hs, Blbest, Blm, Blp, Blc, h8, h9, h12, h13, hN, ha, hx3⟩
            case round =>
              clear Blbest Blm Blp Blc h8 h9 h12 h13 hN ha hx3 hs
              obtain ⟨j, k_le, rfl, hs, Blbest, Blm, Blp, Blc, h8, h9, h12, h13, hN, ha, hx3⟩ := hrel
              by_cases q14 : j < A.length
              · have q14d : ((j : Int) < (A.length : Int)) = True := eq_true (by omega)
                obtain ⟨Ee150, Ee151, le15⟩ := rowCl_at ha (show j < A.length by omega)
                obtain ⟨te15, Hte15⟩ : ∃ z : Int, z = (clAt A j).1 := ⟨_, rfl⟩
                obtain ⟨fe15, Hfe15⟩ : ∃ z : Int, z = (clAt A j).2 := ⟨_, rfl⟩
                rw [← Hte15] at Ee150
                rw [← Hfe15] at Ee151
                obtain ⟨bte15a, bte15b, bfe15a, bfe15b⟩ : 1 ≤ te15 ∧ te15 ≤ 64 ∧ 0 ≤ fe15 ∧ fe15 ≤ te15 := by rw [Hte15, Hfe15]; exact HOK.out _ (List.mem_of_getElem? (clAt_some (by omega)))
                replace Hte15 := Lib.hid Hte15.symm
                replace Hfe15 := Lib.hid Hfe15.symm
                have cp_0 : wr.cell? ⟨w50.heap.size, 0, none⟩ = some (.bool sh12) := Blp.at 0 rfl
                have cp_1 : wr.cell? ⟨w50.heap.size, 1, none⟩ = some (.slice ah12 nh12 ch12) := Blp.at 1 rfl
                have cp_2 : wr.cell? ⟨w50.heap.size, 2, none⟩ = some (.slice Ah12 Nh12 Ch12) := Blp.at 2 rfl
                have Lp : w50.heap.size < wr.heap.size := Blp.lt
                go_wp2_with fail
                clear cp_0 cp_1 cp_2 Lp le15 Ee150 Ee151
                refine Calls.abs ?_
                intro w73 hW
                have hG : Gr [] wr w73 := by rw [hW]; exact (Gr.refl _ _).alloc
                have hbw : Below w.heap.size wr w73 := hG.below0 hs.size
                have hk : KeepD wr w73 := hG.keep True.intro
                have sz_w73 : w.heap.size ≤ wr.heap.size := hs.size
                have nbest_w73 : w43.heap.size < wr.heap.size := Blbest.lt
                have nm_w73 : w45.heap.size < wr.heap.size := Blm.lt
                have np_w73 : w50.heap.size < wr.heap.size := Blp.lt
                have nc_w73 : w50.heap.size + 1 < wr.heap.size := Blc.lt
                have nhN_w73 : bhN < wr.heap.size := hN.lt (by omega)
                have nha_w73 : bha < wr.heap.size := ha.lt (by omega)
                have Bld : Bx w73 (wr.heap.size) 48 #[.int .i64 te15, .int .i64 fe15] := by rw [hW]; exact (Bx.new0 _ _ _)
                replace hs := hs.trans hbw
                replace hN := rowsJ PC.kept _ _ _ hN (hG.below0 (Nat.le_refl _))
                replace ha := rowsJ ClC.kept _ _ _ ha (hG.below0 (Nat.le_refl _))
                replace hx3 := rowsJ PC.kept _ _ _ hx3 (hG.below0 (Nat.le_refl _))
                replace Blbest := hG.bx Blbest notMem0
                replace Blm := hG.bx Blm notMem0
                replace Blp := hG.bx Blp notMem0
                replace Blc := hG.bx Blc notMem0
                replace h8 := h8.keep hk
                replace h9 := h9.keep hk
                replace h12 := h12.keep hk
                replace h13 := h13.keep hk
                clear hW hG hk hbw
                have hz_w73 : wr.heap.size < w73.heap.size := Bld.lt
                with_reducible refine (al_Tail_c _ Hte15.out Hfe15.out (by omega) (by omega) (by omega) h12 sp CP.out).mono ?_
                rintro e w74 ⟨_, rfl, h16, hb⟩
                obtain ⟨sh16, ah16, nh16, ch16, Ah16, Nh16, Ch16, rfl⟩ := h16.shape
                replace hs := bStep hs hb
                replace Blbest := Blbest.mono hb
                replace Blm := Blm.mono hb
                replace Blp := Blp.mono hb
                replace Blc := Blc.mono hb
                replace Bld := Bld.mono hb
                replace h8 := h8.mono hb
                replace h9 := h9.mono hb
                replace h12 := h12.mono hb
                replace h13 := h13.mono hb
                replace hN := rowsJ PC.kept _ _ _ hN hb
                replace ha := rowsJ ClC.kept _ _ _ ha hb
                replace hx3 := rowsJ PC.kept _ _ _ hx3 hb
                clear hb
                go_upto_region 44 with fail
                refine Code.abs ?_
                intro w75 hW
                have hG : Gr [] w74 w75 := by rw [hW]; exact (Gr.refl _ _).alloc
                have hbw : Below w.heap.size w74 w75 := hG.below0 hs.size
                have hk : KeepD w74 w75 := hG.keep True.intro
                have sz_w75 : w.heap.size ≤ w74.heap.size := hs.size
                have nbest_w75 : w43.heap.size < w74.heap.size := Blbest.lt
                have nm_w75 : w45.heap.size < w74.heap.size := Blm.lt
                have np_w75 : w50.heap.size < w74.heap.size := Blp.lt
                have nc_w75 : w50.heap.size + 1 < w74.heap.size := Blc.lt
                have nd_w75 : wr.heap.size < w74.heap.size := Bld.lt
                have nhN_w75 : bhN < w74.heap.size := hN.lt (by omega)
                have nha_w75 : bha < w74.heap.size := ha.lt (by omega)
                have Blt : Bx w75 (w74.heap.size) 26 #[.bool sh16, .slice ah16 nh16 ch16, .slice Ah16 Nh16 Ch16] := by rw [hW]; exact (Bx.new0 _ _ _)
                replace hs := hs.trans hbw
                replace hN := rowsJ PC.kept _ _ _ hN (hG.below0 (Nat.le_refl _))
                replace ha := rowsJ ClC.kept _ _ _ ha (hG.below0 (Nat.le_refl _))
                replace hx3 := rowsJ PC.kept _ _ _ hx3 (hG.below0 (Nat.le_refl _))
                replace Blbest := hG.bx Blbest notMem0
                replace Blm := hG.bx Blm notMem0
                replace Blp := hG.bx Blp notMem0
                replace Blc := hG.bx Blc notMem0
                replace Bld := hG.bx Bld notMem0
                replace h8 := h8.keep hk
                replace h9 := h9.keep hk
                replace h12 := h12.keep hk
                replace h13 := h13.keep hk
                replace h16 := h16.keep hk
                clear hW hG hk hbw
                have hz_w75 : w74.heap.size < w75.heap.size := Blt.lt
                obtain ⟨sg19, Hsg19⟩ : ∃ s : Int, s = sgQ ((tlC A p j) - (1 - u)) := ⟨_, rfl⟩
                replace Hsg19 := Lib.hid Hsg19
                refine U_region (S := fun w' => w'.cell? ⟨w74.heap.size, 0, none⟩ = some (.bool sh16) ∧ w'.cell? ⟨w74.heap.size, 1, none⟩ = some (.slice ah16 nh16 ch16) ∧ w'.cell? ⟨w74.heap.size, 2, none⟩ = some (.slice Ah16 Nh16 Ch16) ∧ w'.cell? ⟨w50.heap.size + 1, 0, none⟩ = some (.bool sh13) ∧ w'.cell? ⟨w50.heap.size + 1, 1, none⟩ = some (.slice ah13 nh13 ch13) ∧ w'.cell? ⟨w50.heap.size + 1, 2, none⟩ = some (.slice Ah13 Nh13 Ch13)) (by kernel_rfl) 7 ?_
                refine AnyU.abs ?_
                intro w76 hW
                have hb : Below w75.heap.size w75 w76 := by rw [hW]; exact bDrew _
                replace hs := bStep hs hb
                replace Blbest := Blbest.mono hb
                replace Blm := Blm.mono hb
                replace Blp := Blp.mono hb
                replace Blc := Blc.mono hb
                replace Bld := Bld.mono hb
                replace Blt := Blt.mono hb
                replace h8 := h8.mono hb
                replace h9 := h9.mono hb
                replace h12 := h12.mono hb
                replace h13 := h13.mono hb
                replace h16 := h16.mono hb
                replace hN := rowsJ PC.kept _ _ _ hN hb
                replace ha := rowsJ ClC.kept _ _ _ ha hb
                replace hx3 := rowsJ PC.kept _ _ _ hx3 hb
                clear hb hW
                have ct_0 : w76.cell? ⟨w74.heap.size, 0, none⟩ = some (.bool sh16) := Blt.at 0 rfl
                have ct_1 : w76.cell? ⟨w74.heap.size, 1, none⟩ = some (.slice ah16 nh16 ch16) := Blt.at 1 rfl
                have ct_2 : w76.cell? ⟨w74.heap.size, 2, none⟩ = some (.slice Ah16 Nh16 Ch16) := Blt.at 2 rfl
                have cc_0 : w76.cell? ⟨w50.heap.size + 1, 0, none⟩ = some (.bool sh13) := Blc.at 0 rfl
                have cc_1 : w76.cell? ⟨w50.heap.size + 1, 1, none⟩ = some (.slice ah13 nh13 ch13) := Blc.at 1 rfl
                have cc_2 : w76.cell? ⟨w50.heap.size + 1, 2, none⟩ = some (.slice Ah13 Nh13 Ch13) := Blc.at 2 rfl
                have hH := (show w76.cell? ⟨w74.heap.size, 0, none⟩ = some (.bool sh16) ∧ w76.cell? ⟨w74.heap.size, 1, none⟩ = some (.slice ah16 nh16 ch16) ∧ w76.cell? ⟨w74.heap.size, 2, none⟩ = some (.slice Ah16 Nh16 Ch16) ∧ w76.cell? ⟨w50.heap.size + 1, 0, none⟩ = some (.bool sh13) ∧ w76.cell? ⟨w50.heap.size + 1, 1, none⟩ = some (.slice ah13 nh13 ch13) ∧ w76.cell? ⟨w50.heap.size + 1, 2, none⟩ = some (.slice Ah13 Nh13 Ch13) from ⟨ct_0, ct_1, ct_2, cc_0, cc_1, cc_2⟩)
                refine U_takeN (i := 0) (d := 226) (v := ?_) rfl rfl rfl (by kernel_rfl) (by kernel_rfl) (by kernel_rfl) (fun _ _ _ h => h) (Or.inl ⟨by rfl, ?_⟩) hH ?_
                rotate_left
                · intro w hSw
                  try dsimp only at hSw
                  go_simp
                  try with_reducible rfl
                simp only [LY]
                refine U_takeN (i := 2) (d := 228) (v := ?_) rfl rfl rfl (by kernel_rfl) (by kernel_rfl) (by kernel_rfl) (fun _ _ _ h => h) (Or.inl ⟨by rfl, ?_⟩) hH ?_
                rotate_left
                · intro w hSw
                  try dsimp only at hSw
                  go_simp
                  try with_reducible rfl
                simp only [LY]
                clear hH
                refine U_one (i := 1) (by kernel_rfl) rfl (fun K hK => ?_)
                go_simp
                (with_reducible refine (p_one _).mono ?_)
                rintro e w77 ⟨_, rfl, h17, hb⟩
                obtain ⟨sh17, ah17, nh17, ch17, Ah17, Nh17, Ch17, rfl⟩ := h17.shape
                replace hs := bStep hs hb
                replace Blbest := Blbest.mono hb
                replace Blm := Blm.mono hb
                replace Blp := Blp.mono hb
                replace Blc := Blc.mono hb
                replace Bld := Bld.mono hb
                replace Blt := Blt.mono hb
                replace h8 := h8.mono hb
                replace h9 := h9.mono hb
                replace h12 := h12.mono hb
                replace h13 := h13.mono hb
                replace h16 := h16.mono hb
                replace hN := rowsJ PC.kept _ _ _ hN hb
                replace ha := rowsJ ClC.kept _ _ _ ha hb
                replace hx3 := rowsJ PC.kept _ _ _ hx3 hb
                replace ct_0 := cellK ct_0 hb
                replace ct_1 := cellK ct_1 hb
                replace ct_2 := cellK ct_2 hb
                replace cc_0 := cellK cc_0 hb
                replace cc_1 := cellK cc_1 hb
                replace cc_2 := cellK cc_2 hb
                clear hb
                try go_wp2_with fail
                refine hK.out _ _ ⟨ct_0, ct_1, ct_2, cc_0, cc_1, cc_2⟩ (fun hH => ?_)
                clear hK K
                try simp only [LY]
                clear hH
                refine U_one (i := 3) (by kernel_rfl) rfl (fun K hK => ?_)
                go_simp
                (with_reducible refine (pSub h17 h13 (SzQ.fit szQ_one) (SzQ.fit su)).mono ?_)
                rintro e w78 ⟨_, rfl, h18, hb⟩
                obtain ⟨sh18, ah18, nh18, ch18, Ah18, Nh18, Ch18, rfl⟩ := h18.shape
                replace hs := bStep hs hb
                replace Blbest := Blbest.mono hb
                replace Blm := Blm.mono hb
                replace Blp := Blp.mono hb
                replace Blc := Blc.mono hb
                replace Bld := Bld.mono hb
                replace Blt := Blt.mono hb
                replace h8 := h8.mono hb
                replace h9 := h9.mono hb
                replace h12 := h12.mono hb
                replace h13 := h13.mono hb
                replace h16 := h16.mono hb
                replace h17 := h17.mono hb
                replace hN := rowsJ PC.kept _ _ _ hN hb
                replace ha := rowsJ ClC.kept _ _ _ ha hb
                replace hx3 := rowsJ PC.kept _ _ _ hx3 hb
                replace ct_0 := cellK ct_0 hb
                replace ct_1 := cellK ct_1 hb
                replace ct_2 := cellK ct_2 hb
                replace cc_0 := cellK cc_0 hb
                replace cc_1 := cellK cc_1 hb
                replace cc_2 := cellK cc_2 hb
                clear hb
                try go_wp2_with fail
                refine hK.out _ _ ⟨ct_0, ct_1, ct_2, cc_0, cc_1, cc_2⟩ (fun hH => ?_)
                clear hK K
                try simp only [LY]
                clear hH
                refine U_one (i := 4) (by kernel_rfl) rfl (fun K hK => ?_)
                go_simp
                (with_reducible refine (pCmp h16 h18 (SzQ.fit (tlC_sz HOK.out CP.out sp (by omega))) (SzQ.fit (SzQ.sub szQ_one su))).mono ?_)
                rintro e w79 ⟨rfl, hb⟩
                replace hs := bStep hs hb
                replace Blbest := Blbest.mono hb
                replace Blm := Blm.mono hb
                replace Blp := Blp.mono hb
                replace Blc := Blc.mono hb
                replace Bld := Bld.mono hb
                replace Blt := Blt.mono hb
                replace h8 := h8.mono hb
                replace h9 := h9.mono hb
                replace h12 := h12.mono hb
                replace h13 := h13.mono hb
                replace h16 := h16.mono hb
                replace h17 := h17.mono hb
                replace h18 := h18.mono hb
                replace hN := rowsJ PC.kept _ _ _ hN hb
                replace ha := rowsJ ClC.kept _ _ _ ha hb
                replace hx3 := rowsJ PC.kept _ _ _ hx3 hb
                replace ct_0 := cellK ct_0 hb
                replace ct_1 := cellK ct_1 hb
                replace ct_2 := cellK ct_2 hb
                replace cc_0 := cellK cc_0 hb
                replace cc_1 := cellK cc_1 hb
                replace cc_2 := cellK cc_2 hb
                clear hb
                rw [← Hsg19.out]
                try go_wp2_with fail
                refine hK.out _ _ ⟨ct_0, ct_1, ct_2, cc_0, cc_1, cc_2⟩ (fun hH => ?_)
                clear hK K
                try simp only [LY]
                refine U_takeN (i := 5) (d := 231) (v := ?_) rfl rfl rfl (by kernel_rfl) (by kernel_rfl) (by kernel_rfl) (fun _ _ _ h => h) (Or.inl ⟨by rfl, ?_⟩) hH ?_
                rotate_left
                · intro w hSw
                  try dsimp only at hSw
                  go_simp
                  try with_reducible rfl
                simp only [LY]
                refine U_takeN (i := 6) (d := 33) (v := ?_) rfl rfl rfl (by kernel_rfl) (by kernel_rfl) (by kernel_rfl) (fun _ _ _ h => h) (Or.inl ⟨by rfl, ?_⟩) hH ?_
                rotate_left
                · intro w hSw
                  try dsimp only at hSw
                  go_simp
                  try with_reducible rfl
                simp only [LY]
                clear hH
                refine U_endN (by kernel_rfl) ?_
                clear ct_0 ct_1 ct_2 cc_0 cc_1 cc_2
                by_cases q20 : D ≤ j
                · have q20d : ((D : Int) ≤ (j : Int)) = True := eq_true (by omega)
                  have q21 : tlC A p j ≤ 1 - u := ((HPS.out j (by omega)).1 (by omega))
                  have q21_ : sg19 ≤ 0 := by have h := sq_le (tlC A p j) (1 - u); rw [← Hsg19.out] at h; exact h.2 q21
                  have q21H := Lib.hid q21
                  clear q21
                  have q21d : decide (sg19 ≤ 0) = true := decide_eq_true q21_
                  have q22 : ¬ ((j : Int) = (D : Int) - 1) := (by omega)
                  have q22b : ((j : Int) == (D : Int) - 1) = false := beq_eq_false_iff_ne.2 (by omega)
                  have q22n : ((j : Int) != (D : Int) - 1) = true := bne_iff_ne.2 (by omega)
                  have q22H := Lib.hid q22
                  clear q22
                  go_wp2
                  go_roundw
                  case rel => exact ⟨j + 1, by omega, by go_num, hs, Blbest, Blm, Blp, Blc, h8, h9, h12, h13, hN, ha, hx3⟩
                  all_goals first | (simp [intOf]; done) | (simp [intOf]; omega)
                · have q20d : ((D : Int) ≤ (j : Int)) = False := eq_false (by omega)
                  by_cases q21 : (j : Int) = (D : Int) - 1
                  · have q21b : ((j : Int) == (D : Int) - 1) = true := beq_iff_eq.2 (by omega)
                    have q21n : ((j : Int) != (D : Int) - 1) = false := bne_eq_false_iff_eq.2 (by omega)
                    have q21H := Lib.hid q21
                    clear q21
                    have q22 : ¬ (tlC A p j ≤ 1 - u) := ((HPS.out j (by omega)).2 (by have h := q21H.out; omega))
                    have q22_ : ¬ (sg19 ≤ 0) := by have h := sq_le (tlC A p j) (1 - u); rw [← Hsg19.out] at h; exact fun h1 => q22 (h.1 h1)
                    have q22H := Lib.hid q22
                    clear q22
                    have q22d : decide (sg19 ≤ 0) = false := decide_eq_false q22_
                    go_wp2
                    go_roundw
                    case rel => exact ⟨j + 1, by omega, by go_num, hs, Blbest, Blm, Blp, Blc, h8, h9, h12, h13, hN, ha, hx3⟩
                    all_goals first | (simp [intOf]; done) | (simp [intOf]; omega)
                  · have q21b : ((j : Int) == (D : Int) - 1) = false := beq_eq_false_iff_ne.2 (by omega)
                    have q21n : ((j : Int) != (D : Int) - 1) = true := bne_iff_ne.2 (by omega)
                    have q21H := Lib.hid q21
                    clear q21
                    go_wp2
                    go_roundw
                    case rel => exact ⟨j + 1, by omega, by go_num, hs, Blbest, Blm, Blp, Blc, h8, h9, h12, h13, hN, ha, hx3⟩
                    all_goals first | (simp [intOf]; done) | (simp [intOf]; omega)
              · have q14d : ((j : Int) < (A.length : Int)) = False := eq_false (by omega)
                by_cases q15 : r2 = 0
                · have q15b : (r2 == 0) = true := beq_iff_eq.2 (by omega)
                  have q15n : (r2 != 0) = false := bne_eq_false_iff_eq.2 (by omega)
                  have q15H := Lib.hid q15
                  clear q15
                  go_wp2
                  go_ret
                  exact ⟨rfl, hs⟩
                · have q15b : (r2 == 0) = false := beq_eq_false_iff_ne.2 (by omega)
                  have q15n : (r2 != 0) = true := bne_iff_ne.2 (by omega)
                  have q15H := Lib.hid q15
                  clear q15
                  have q16 : r2 = 5 := (by have h := HRR.out; have h2 := q15H.out; omega)
                  have q16b : (r2 == 5) = true := beq_iff_eq.2 (by omega)
                  have q16n : (r2 != 5) = false := bne_eq_false_iff_eq.2 (by omega)
                  have q16H := Lib.hid q16
                  clear q16
                  go_wp2
                  go_ret
                  exact ⟨rfl, hs⟩

theorem l8_AllowFits (v vo : Value) (l : List (Int × Int)) (O : List Int) (b c : Int) (w : World) (hl : RowsI 2 U2C w v l) (ho : RowsI 1 W8C w vo O) (hl8 : ∀ x ∈ l, (0 ≤ x.1 ∧ x.1 ≤ 255) ∧ (0 ≤ x.2 ∧ x.2 ≤ 255)) (hO : ∀ x ∈ O, 0 ≤ x ∧ x ≤ 255) (bb : 0 ≤ b ∧ b ≤ 255) (bc : 0 ≤ c ∧ c ≤ 255) :
    Calls Try.prog 6 #[v, vo, .int .u8 b, .int .u8 c] w (RetV w (.bool true)) := by
  by_cases h0 : l.length ≤ 0
  · exact l8_Fits_nil v vo l O b c w hl ho h0
  · obtain ⟨A, hA⟩ : ∃ A, fitA l l.length = A := ⟨_, rfl⟩
    have A6 := (fitA_len l l.length).2
    have A1 := fitA_pos (l := l) (by omega)
    have hok : ∀ x ∈ A, ClOk x := fun x hx => (fitA_ok hl8 l.length x (hA ▸ hx)).1
    rw [hA] at A1 A6
    obtain ⟨X, hX⟩ : ∃ X, outR (pavL A) = X := ⟨_, rfl⟩
    obtain ⟨best, hbe⟩ : ∃ q, mfL A X = q := ⟨_, rfl⟩
    obtain ⟨m, hmm⟩ : ∃ q, mfL A (ownK O A.length) = q := ⟨_, rfl⟩
    obtain ⟨f1, f2, f3, f4⟩ := fit_all hok O hX hbe hmm
    have hXz : ∀ i, i < X.length → SzQ 1 (nthQ X i) := fun i hi => hX ▸ outR_sz hok (by omega) i (hX.symm ▸ hi)
    have s1 := mfK_sz hok f1 hXz A.length (Nat.le_refl _)
    rw [mfK_all (by omega), hbe] at s1
    have s2 := mfK_sz hok (ownK_len O A.length) (ownK_sz hO A.length) A.length (Nat.le_refl _)
    rw [mfK_all (by rw [ownK_len]; exact Nat.le_refl _), hmm] at s2
    obtain ⟨p, hp⟩ : ∃ q : Rat, ((b % 17 : Int) : Rat) / ((16 : Int) : Rat) = q := ⟨_, rfl⟩
    obtain ⟨u, hu⟩ : ∃ q : Rat, ((c % 17 : Int) : Rat) / ((16 : Int) : Rat) = q := ⟨_, rfl⟩
    have sp : SzQ 1 p := hp ▸ szQ_frac (by omega) (by decide) (by decide)
    have su : SzQ 1 u := hu ▸ szQ_frac (by omega) (by decide) (by decide)
    have cp := div_bd hp (by omega) (by omega) (by decide)
    have cu := div_bd hu (by omega) (by omega) (by decide)
    obtain ⟨D, hD⟩ : ∃ D, relF (prvC A u p) A.length = D := ⟨_, rfl⟩
    have D1 : D ≤ A.length := hD ▸ relF_le _ _
    refine l8_Fits_ok v vo l O b c w hl ho hl8 hO bb bc A hA A1 A6 hok X hX (by omega) (by omega) f2 hXz best m hbe hmm (s1.mono (by omega)) (s2.mono (by omega)) f3 _ rfl f4 p u hp hu sp su cp cu D hD D1 _ _ rfl rfl ?_ fun i hi => ⟨fun h => ?_, fun h => ?_⟩
    · by_cases e : D = A.length
      · exact .inl ⟨e, if_pos e, if_pos e⟩
      · exact .inr ⟨by omega, if_neg e, if_neg e⟩
    · have := relF_all (prvC A u p) A.length i (by omega) hi
      exact of_decide_eq_true this
    · have := relF_last (prvC A u p) A.length (by omega)
      rw [hD, show D - 1 = i by omega] at this
      exact fun e => this (decide_eq_true e)
end Go.Proofs.Ytmnipggjjcmjkaa
