/-
  allow: ranks, total, RankSum.
-/
import Derived.Test.YtmnipggjjcmjkaaGreatAlC
set_option linter.unusedSimpArgs false
set_option linter.unusedVariables false
namespace Go.Proofs.YtmnipggjjcmjkaaGreat
open Go.RowKit Dg
attribute [local go_sem ↓] Go.wp_at_zero Go.wp_at_succ

theorem sgQ_bd (x : Rat) : -1 ≤ sgQ x ∧ sgQ x ≤ 1 := by
  unfold sgQ
  split
  · omega
  · split <;> omega
/-- The doubled rank of x among the first j values of a list. -/
def rnS (L : List Rat) (x : Rat) : Nat → Int
  | 0 => 1
  | j + 1 => rnS L x j + max (1 + sgQ (x - nthQ L j)) 0
theorem rnS_bd (L : List Rat) (x : Rat) : ∀ j, 1 ≤ rnS L x j ∧ rnS L x j ≤ 1 + 2 * j
  | 0 => by show (1 : Int) ≤ 1 ∧ (1 : Int) ≤ _; omega
  | j + 1 => by
    have ih := rnS_bd L x j
    have b := sgQ_bd (x - nthQ L j)
    show 1 ≤ rnS L x j + _ ∧ rnS L x j + _ ≤ _
    omega
/-- The doubled ranks of the first k values. -/
def rkT (L : List Rat) (k : Nat) : List Int := (List.range k).map fun i => rnS L (nthQ L i) L.length
theorem rkT_len (L : List Rat) (k : Nat) : (rkT L k).length = k := by simp [rkT]
theorem rkT_succ (L : List Rat) (k : Nat) : rkT L (k + 1) = rkT L k ++ [rnS L (nthQ L k) L.length] := by unfold rkT; rw [List.range_succ, List.map_append]; rfl
def IC (_ : World) (cs : List Value) (x : Int) : Prop := cs = [.int .i64 x]
theorem IC.kept : Kept IC := fun _ _ _ _ h _ => h
theorem int_info : (Tryz.prog.info? 3).map (fun i => (i.zero, i.size, i.bytes)) = some (some (.int .i64 0), 1, 8) := by kernel_rfl
def nthI (L : List Int) (i : Nat) : Int := L.getD i 0
theorem nthI_some {L : List Int} {i : Nat} (h : i < L.length) : L[i]? = some (nthI L i) := by unfold nthI; rw [List.getD_eq_getElem?_getD, List.getElem?_eq_getElem h]; rfl
theorem rowI_at {w : World} {U : TypeId} {b o n c : Nat} {L : List Int} {i : Nat} (h : Rows 1 U IC w (.slice (some ⟨b, o, none⟩) n c) L) (hi : i < L.length) : w.cell? ⟨b, o + i * 1, none⟩ = some (.int .i64 (nthI L i)) ∧ b < w.heap.size := by
  obtain ⟨b', o', c', cs, hv, _, hat, rfl⟩ := h.get (nthI_some hi)
  obtain ⟨e, rfl⟩ := sliceE hv
  injection e with e
  injection e with e1 e2
  subst e1 e2
  exact ⟨hat 0 _ rfl, cell_lt (hat 0 _ rfl)⟩
/-- The sum of the first k numbers. -/
def totS (L : List Int) : Nat → Int
  | 0 => 0
  | k + 1 => totS L k + nthI L k
theorem totS_bd {L : List Int} (h : ∀ x ∈ L, 0 ≤ x ∧ x ≤ 1000) : ∀ k, k ≤ L.length → 0 ≤ totS L k ∧ totS L k ≤ 1000 * k
  | 0, _ => by show (0 : Int) ≤ 0 ∧ (0 : Int) ≤ _; omega
  | k + 1, hk => by
    have ih := totS_bd h k (by omega)
    have a := h _ (List.mem_of_getElem? (nthI_some (show k < L.length by omega)))
    show 0 ≤ totS L k + _ ∧ totS L k + _ ≤ _
    omega

set_option maxRecDepth 100000 in
set_option maxHeartbeats 16000000 in
theorem al_ranks {v : Value} {L : List Rat} (w : World) (hl : Rows 3 29 PC w v L) (h1 : 1 ≤ L.length) (h128 : L.length ≤ 128) (hz : ∀ i, i < L.length → SzQ 100000 (nthQ L i)) :
    Calls Tryz.prog 80 #[v] w (Ret1 (fun w v => Rows 1 3 IC w v (rkT L L.length)) w) := by
  obtain ⟨rb, ro, rc, rfl, hc1, hc2, -⟩ := hl.open_ (by omega)
  have hs := Below.refl w.heap.size w
  have HL := Lib.hid hl
  have HZ := Lib.hid hz
  obtain ⟨i0, hi, hz0, hz1, hz2⟩ := info_parts int_info
  clear hl hz
  go_enter Tryz.func80, Tryz.ntmps80
  go_wp2
  go_loopw [3, 11] (fun s3 s11 wq => ∃ m : Nat, m ≤ L.length ∧ s11 = .int .i64 m ∧ Below w.heap.size w wq ∧ OwnR w.heap.size 3 1 IC wq s3 (rkT L m)) (fun s3 s11 _ => L.length - (intOf s11).toNat)
  case atStart => exact ⟨0, Nat.zero_le _, rfl, hs, OwnR.nil _ _ _ _ _⟩
  case round =>
    clear hs
    obtain ⟨m, k_le, rfl, hs, Opc⟩ := hrel
    obtain ⟨wo, hwo⟩ : ∃ x, x = wr := ⟨_, rfl⟩
    subst hwo
    have lrk : (rkT L m).length ≤ m := Nat.le_of_eq (rkT_len L m)
    by_cases q1 : m < L.length
    · have q1d : ((m : Int) < (L.length : Int)) = True := eq_true (by omega)
      have BI2a : m < L.length := by omega
      have BI2b : ((m : Int) : Int) < (L.length : Int) := by omega
      obtain ⟨ge3a, ae3a, ne3a, ce3a, Ae3a, Ne3a, De3a, Ee30, Ee31, Ee32, he3a, le3⟩ := rowP_at (HL.out.mono PC.kept hs) (show m < L.length by omega)
      go_wp2
      clear le3 Ee30 Ee31 Ee32
      refine Code.abs ?_
      intro w21 hW
      have hG : Gr [] wo w21 := by rw [hW]; exact (Gr.refl _ _).alloc
      have hbw : Below w.heap.size wo w21 := hG.below0 hs.size
      have hk : KeepD wo w21 := hG.keep True.intro
      have sz_w21 : w.heap.size ≤ wo.heap.size := hs.size
      have Blx : Bx w21 (wo.heap.size) 29 #[.bool ge3a, .slice ae3a ne3a ce3a, .slice Ae3a Ne3a De3a] := by rw [hW]; exact (Bx.new0 _ _ _)
      replace hs := hs.trans hbw
      replace he3a := he3a.keep hk
      replace Opc := Opc.mono IC.kept (hG.below0 (Nat.le_refl _))
      clear hW hG hk hbw
      have hz_w21 : wo.heap.size < w21.heap.size := Blx.lt
      have HB0_4 := Lib.hid hs
      clear hs
      have hs := Below.refl w21.heap.size w21
      have nb_x : wo.heap.size < w21.heap.size := Blx.lt
      have FOpc := Lib.hid Opc
      clear Opc
      go_loopw [6, 17] (fun s6 s17 wq => ∃ j : Nat, j ≤ L.length ∧ s17 = .int .i64 j ∧ s6 = .int .i64 (rnS L (nthQ L m) j) ∧ Below w21.heap.size w21 wq ∧ Bx wq (wo.heap.size) 29 #[.bool ge3a, .slice ae3a ne3a ce3a, .slice Ae3a Ne3a De3a] ∧ PV wq (.agg #[.bool ge3a, .slice ae3a ne3a ce3a, .slice Ae3a Ne3a De3a]) (nthQ L m)) (fun s6 s17 _ => L.length - (intOf s17).toNat)
      case atStart => exact ⟨0, Nat.zero_le _, rfl, rfl, hs, Blx, he3a⟩
      case round =>
        clear Blx he3a hs
        obtain ⟨j, k_le, rfl, rfl, hs, Blx, he3a⟩ := hrel
        obtain ⟨tb1, tb2⟩ := rnS_bd L (nthQ L m) j
        obtain ⟨tn, HTN⟩ : ∃ z, z = rnS L (nthQ L m) j := ⟨_, rfl⟩
        rw [← HTN]
        rw [← HTN] at tb1 tb2
        replace HTN := Lib.hid HTN.symm
        by_cases q5 : j < L.length
        · have q5d : ((j : Int) < (L.length : Int)) = True := eq_true (by omega)
          have BI6a : j < L.length := by omega
          have BI6b : ((j : Int) : Int) < (L.length : Int) := by omega
          obtain ⟨ge7a, ae7a, ne7a, ce7a, Ae7a, Ne7a, De7a, Ee70, Ee71, Ee72, he7a, le7⟩ := rowP_at (HL.out.mono PC.kept (bStep HB0_4.out hs)) (show j < L.length by omega)
          have cx_0 : wr.cell? ⟨wo.heap.size, 0, none⟩ = some (.bool ge3a) := Blx.at 0 rfl
          have cx_1 : wr.cell? ⟨wo.heap.size, 1, none⟩ = some (.slice ae3a ne3a ce3a) := Blx.at 1 rfl
          have cx_2 : wr.cell? ⟨wo.heap.size, 2, none⟩ = some (.slice Ae3a Ne3a De3a) := Blx.at 2 rfl
          have Lx : wo.heap.size < wr.heap.size := Blx.lt
          go_wp2_with fail
          clear cx_0 cx_1 cx_2 Lx le7 Ee70 Ee71 Ee72
          refine Calls.abs ?_
          intro w42 hW
          have hG : Gr [] wr w42 := by rw [hW]; exact (Gr.refl _ _).alloc
          have hbw : Below w21.heap.size wr w42 := hG.below0 hs.size
          have hk : KeepD wr w42 := hG.keep True.intro
          have sz_w42 : w21.heap.size ≤ wr.heap.size := hs.size
          have nx_w42 : wo.heap.size < wr.heap.size := Blx.lt
          have Bly : Bx w42 (wr.heap.size) 29 #[.bool ge7a, .slice ae7a ne7a ce7a, .slice Ae7a Ne7a De7a] := by rw [hW]; exact (Bx.new0 _ _ _)
          replace hs := hs.trans hbw
          replace Blx := hG.bx Blx notMem0
          replace he3a := he3a.keep hk
          replace he7a := he7a.keep hk
          clear hW hG hk hbw
          have hz_w42 : wr.heap.size < w42.heap.size := Bly.lt
          with_reducible refine (pCmp he3a he7a (SzQ.fit (HZ.out m (by omega))) (SzQ.fit (HZ.out j (by omega)))).mono ?_
          rintro e w43 ⟨rfl, hb⟩
          replace hs := bStep hs hb
          replace Blx := Blx.mono hb
          replace Bly := Bly.mono hb
          replace he3a := he3a.mono hb
          replace he7a := he7a.mono hb
          clear hb
          obtain ⟨sg8, Hsg8⟩ : ∃ s : Int, s = sgQ ((nthQ L m) - (nthQ L j)) := ⟨_, rfl⟩
          have Bsg8 : -1 ≤ sg8 ∧ sg8 ≤ 1 := by rw [Hsg8]; exact sgQ_bd _
          obtain ⟨Bsg8a, Bsg8b⟩ := Bsg8
          rw [← Hsg8]
          replace Hsg8 := Lib.hid Hsg8
          have AWq9 := IntWalk.i64_in (tn + max (1 + sg8) 0) (by omega)
          go_wp2
          go_roundw
          case rel => exact ⟨j + 1, by omega, by go_num, by rw [Hsg8.out, ← HTN.out]; rfl, hs, Blx, he3a⟩
          all_goals first | (simp [intOf]; done) | (simp [intOf]; omega)
        · have q5d : ((j : Int) < (L.length : Int)) = False := eq_false (by omega)
          obtain rfl : j = L.length := by omega
          have Opc := FOpc.out.mono IC.kept hs
          replace hs := bStep HB0_4.out hs
          go_wp2_with (at_builtin; refine wpList.stop ?_)
          refine ⟨?_⟩
          refine wpList.abs ?_
          intro w42 hW
          have hG : Gr [] wr w42 := by rw [hW]; exact (Gr.refl _ _).alloc
          have hbw : Below w.heap.size wr w42 := hG.below0 hs.size
          have hk : KeepD wr w42 := hG.keep True.intro
          have sz_w42 : w.heap.size ≤ wr.heap.size := hs.size
          have nx_w42 : wo.heap.size < wr.heap.size := Blx.lt
          have Blls : Bx w42 (wr.heap.size) 3 #[.int .i64 tn] := by rw [hW]; exact (Bx.new0 _ _ _)
          replace hs := hs.trans hbw
          replace Blx := hG.bx Blx notMem0
          replace he3a := he3a.keep hk
          replace Opc := Opc.mono IC.kept (hG.below0 (Nat.le_refl _))
          clear hW hG hk hbw
          have hz_w42 : wr.heap.size < w42.heap.size := Blls.lt
          obtain ⟨css, ho1, ho2, ho3, hown0⟩ := Opc
          refine wpList_append_lies _ rfl _ _ _ rfl w.heap.size 3 i0 _ 1 8 Tryz.underlying132 hi hz0 hz1 hz2 rfl (by omega) _ _ css.flatten rfl hown0 ⟨wr.heap.size, 0, none⟩ 1 1 [.int .i64 tn] rfl rfl Blls.news ?_ (by omega) ?_ ?_ ?_ _ rfl ?_
          · intro u hu; simp only [List.mem_cons, List.mem_nil_iff, or_false] at hu; rcases hu with rfl <;> rfl
          · unfold maxLen; (try simp only [List.length_append, List.length_cons, List.length_nil]); omega
          · (try simp only [List.length_append, List.length_cons, List.length_nil]); omega
          · exact hs.size
          intro gpc cappc w43 hown1 hgrow hat hlt_
          have hk_ := KeepD.owns hown0 hgrow (by decide)
          have ho := owns_onlyT hown0 hgrow
          replace hs := hs.grown hgrow hs.size (fun k hk => (hown0.lt k hk).1)
          replace Opc := OwnR.push' IC.kept ho1 ho2 ho3 (x := tn) rfl rfl (by simp) hown1 hk_
          replace Blx := Blx.only ho (by decide)
          replace he3a := he3a.keep hk_
          clear hk_ ho ho1 ho2 ho3 hown0 hown1 hgrow hat hlt_ Blls
          go_wp2
          go_roundw
          case rel => exact ⟨m + 1, by omega, by go_num, hs, by rw [rkT_succ, show rnS L (nthQ L m) L.length = tn from HTN.out]; exact Opc⟩
          all_goals first | (simp [intOf]; done) | (simp [intOf]; omega)
    · have q1d : ((m : Int) < (L.length : Int)) = False := eq_false (by omega)
      obtain rfl : m = L.length := by omega
      have HR := Lib.hid Opc.rows
      clear Opc
      go_wp2
      go_ret
      exact ⟨_, rfl, HR.out, hs⟩

set_option maxRecDepth 100000 in
set_option maxHeartbeats 4000000 in
theorem al_total {v : Value} {L : List Int} (w : World) (hl : Rows 1 3 IC w v L) (h1 : 1 ≤ L.length) (h128 : L.length ≤ 128) (hz : ∀ x ∈ L, 0 ≤ x ∧ x ≤ 1000) :
    Calls Tryz.prog 79 #[v] w (RetV w (.int .i64 (totS L L.length))) := by
  obtain ⟨rb, ro, rc, rfl, hc1, hc2, -⟩ := hl.open_ (by omega)
  have hs := Below.refl w.heap.size w
  have HL := Lib.hid hl
  have HZ := Lib.hid hz
  clear hl hz
  go_enter Tryz.func79, Tryz.ntmps79
  go_wp2
  go_loopw [3, 8] (fun s3 s8 wq => ∃ j : Nat, j ≤ L.length ∧ s8 = .int .i64 j ∧ s3 = .int .i64 (totS L j) ∧ Below w.heap.size w wq) (fun s3 s8 _ => L.length - (intOf s8).toNat)
  case atStart => exact ⟨0, Nat.zero_le _, rfl, rfl, hs⟩
  case round =>
    clear hs
    obtain ⟨j, k_le, rfl, rfl, hs⟩ := hrel
    obtain ⟨tb1, tb2⟩ := totS_bd HZ.out j k_le
    obtain ⟨tn, HTN⟩ : ∃ z, z = totS L j := ⟨_, rfl⟩
    rw [← HTN]
    rw [← HTN] at tb1 tb2
    replace HTN := Lib.hid HTN.symm
    by_cases q1 : j < L.length
    · have q1d : ((j : Int) < (L.length : Int)) = True := eq_true (by omega)
      obtain ⟨Ee20, le2⟩ := rowI_at (HL.out.mono IC.kept hs) (show j < L.length by omega)
      simp only [Nat.mul_one] at Ee20
      obtain ⟨ie2a, Hie2a⟩ : ∃ z : Int, z = nthI L j := ⟨_, rfl⟩
      rw [← Hie2a] at Ee20
      replace Hie2a := Lib.hid Hie2a.symm
      obtain ⟨Bie2aa, Bie2ab⟩ := HZ.out _ (List.mem_of_getElem? (nthI_some (show j < L.length by omega)))
      rw [Hie2a.out] at Bie2aa Bie2ab
      have AWq3 := IntWalk.i64_in (tn + ie2a) (by omega)
      go_wp2
      go_roundw
      case rel => exact ⟨j + 1, by omega, by go_num, by rw [← HTN.out, ← Hie2a.out]; rfl, hs⟩
      all_goals first | (simp [intOf]; done) | (simp [intOf]; omega)
    · have q1d : ((j : Int) < (L.length : Int)) = False := eq_false (by omega)
      obtain rfl : j = L.length := by omega
      go_wp2
      go_ret
      exact ⟨by rw [HTN.out]; rfl, hs⟩

end Go.Proofs.YtmnipggjjcmjkaaGreat
