/-
  allow: Alike. Law 08: values, AllowSame.
-/
import Derived.Test.YtmnipggjjcmjkaaAlkW
import Derived.Test.YtmnipggjjcmjkaaSame0
import Derived.Test.YtmnipggjjcmjkaaAlAw
set_option linter.unusedSimpArgs false
set_option linter.unusedVariables false
namespace Go.Proofs.Ytmnipggjjcmjkaa
open Go.RowKit Dg
attribute [local go_sem ↓] Go.wp_at_zero Go.wp_at_succ

set_option maxRecDepth 100000 in
set_option maxHeartbeats 4000000 in
theorem al_Alike {va vb : Value} {la lb : List Rat} (w : World) (hx : Rows 3 26 PC w va la) (hy : Rows 3 26 PC w vb lb) (h1 : 1 ≤ la.length) (h2 : 1 ≤ lb.length) (h20 : la.length + lb.length ≤ 20) (hz : ∀ i, i < (la ++ lb).length → SzQ 100000 (nthQ (la ++ lb) i)) {q : Rat} (hq : alA la lb = q) (sq : SzQ 1 q) : Calls Try.prog 21 #[va, vb] w (RetPE w q 0) := by
  obtain ⟨bhx, ohx, khx, rfl, hx1, hx2, -⟩ := hx.open_ (by omega)
  obtain ⟨bhy, ohy, khy, rfl, hy1, hy2, -⟩ := hy.open_ (by omega)
  have HZ := Lib.hid hz
  have HQ := Lib.hid (show alkQ (rkT (la ++ lb) (la ++ lb).length) la.length = q from hq)
  clear hz hq
  have hs := Below.refl w.heap.size w
  go_enter Try.func21, Try.ntmps21
  go_wp2_with fail
  refine Calls.abs ?_
  intro w1 hW
  have hG : Gr [] w w1 := by rw [hW]; exact (Gr.refl _ _).alloc
  have hbw : Below w.heap.size w w1 := hG.below0 hs.size
  have hk : KeepD w w1 := hG.keep True.intro
  have sz_w1 : w.heap.size ≤ w.heap.size := hs.size
  have nhx_w1 : bhx < w.heap.size := hx.lt (by omega)
  have nhy_w1 : bhy < w.heap.size := hy.lt (by omega)
  have Blk : Bx w1 (w.heap.size) 26 #[.bool false, .slice none 0 0, .slice none 0 0] := by rw [hW]; exact (Bx.new0 _ _ _)
  replace hs := hs.trans hbw
  replace hx := rowsJ PC.kept _ _ _ hx (hG.below0 (Nat.le_refl _))
  replace hy := rowsJ PC.kept _ _ _ hy (hG.below0 (Nat.le_refl _))
  clear hW hG hk hbw
  have hz_w1 : w.heap.size < w1.heap.size := Blk.lt
  with_reducible refine (al_checkTwo _ hx hy h1 h2 (by omega)).mono ?_
  rintro e w2 ⟨rfl, hb⟩
  replace hs := bStep hs hb
  replace Blk := Blk.mono hb
  replace hx := rowsJ PC.kept _ _ _ hx hb
  replace hy := rowsJ PC.kept _ _ _ hy hb
  clear hb
  go_wp2_with fail
  with_reducible refine (al_alike _ hx hy h1 h2 h20 rfl HZ.out rfl HQ.out).mono ?_
  rintro e w3 ⟨_, rfl, h1, hb⟩
  obtain ⟨sh1, ah1, nh1, ch1, Ah1, Nh1, Ch1, rfl⟩ := h1.shape
  replace hs := bStep hs hb
  replace Blk := Blk.mono hb
  replace hx := rowsJ PC.kept _ _ _ hx hb
  replace hy := rowsJ PC.kept _ _ _ hy hb
  clear hb
  have ck_0 : w3.cell? ⟨w.heap.size, 0, none⟩ = some (.bool false) := Blk.at 0 rfl
  have ck_1 : w3.cell? ⟨w.heap.size, 1, none⟩ = some (.slice none 0 0) := Blk.at 1 rfl
  have ck_2 : w3.cell? ⟨w.heap.size, 2, none⟩ = some (.slice none 0 0) := Blk.at 2 rfl
  have fk := Blk.free
  have Lk : w.heap.size < w3.heap.size := Blk.lt
  go_wp2
  clear ck_0 ck_1 ck_2 fk Lk
  refine bodyPost.abs ?_
  intro w4 hW
  have hG : Gr [w.heap.size] w3 w4 := by rw [hW]; exact (Gr.refl _ _).set.set.set
  have hsz := hs.size
  have lk := Blk.lt
  have hbw : Below w.heap.size w3 w4 := hG.below1 hs.size (by first | omega | assumption)
  have hk : KeepD w3 w4 := hG.keep ⟨⟨_, Blk.ty, by decide⟩, True.intro⟩
  have Bl1k : Bx w4 (w.heap.size) 26 #[.bool sh1, .slice ah1 nh1 ch1, .slice Ah1 Nh1 Ch1] := by rw [hW]; exact Blk.set3
  replace hs := hs.trans hbw
  replace hx := hx.gr PC.kept hG (notMem1 (by omega)) hk
  replace hy := hy.gr PC.kept hG (notMem1 (by omega)) hk
  replace Blk := Bl1k
  clear Bl1k
  replace h1 := h1.keep hk
  clear hW hG hk hbw hsz lk
  have ck_0 : w4.cell? ⟨w.heap.size, 0, none⟩ = some (.bool sh1) := Blk.at 0 rfl
  have ck_1 : w4.cell? ⟨w.heap.size, 1, none⟩ = some (.slice ah1 nh1 ch1) := Blk.at 1 rfl
  have ck_2 : w4.cell? ⟨w.heap.size, 2, none⟩ = some (.slice Ah1 Nh1 Ch1) := Blk.at 2 rfl
  exact bodyPost_ret (v := .tuple #[.agg #[.bool sh1, .slice ah1 nh1 ch1, .slice Ah1 Nh1 Ch1], .int .i64 0]) (by simp [results, Try.results21, go_sem, ck_0, ck_1, ck_2]) rfl ⟨_, rfl, h1, hs⟩

def I8C (_ : World) (cs : List Value) (x : Int) : Prop := cs = [.int .i8 x]
theorem I8C.kept : Kept I8C := fun _ _ _ _ h _ => h
theorem rowI8_at {w : World} {v : Value} {L : List Int} {i : Nat} (h : RowsI 1 I8C w v L) (hi : i < L.length) : ∃ b o c, v = .slice (some ⟨b, o, none⟩) L.length c ∧ w.cell? ⟨b, o + i, none⟩ = some (.int .i8 (nthI L i)) ∧ b < w.heap.size := by
  obtain ⟨b', o', c', cs, hv, _, hat, rfl⟩ := h.get (nthI_some hi)
  have := hat 0 _ rfl
  rw [Nat.mul_one, Nat.add_zero] at this
  exact ⟨_, _, _, hv, this, cell_lt this⟩
theorem p_Int_8 {n : Int} {f : Rat} (w : World) (h : (n : Rat) = f) (h1 : -1000 ≤ n) (h2 : n ≤ 1000) : Calls Try.prog 10 #[.int .i64 n] w (RetP w f) := by
  subst h
  exact p_Int_calls n w (by omega) (by omega)
theorem p_Int_w {n : Int} {f : Rat} (w : World) (h : (n : Rat) = f) (h1 : -1000 ≤ n) (h2 : n ≤ 1000) : Calls Try.prog 10 #[.int .i64 (IntKind.i64.wrap n)] w (RetP w f) := by
  rw [IntWalk.i64_in n (by omega)]
  exact p_Int_8 w h h1 h2
def valK (l : List Int) (n k : Nat) : List Rat := ((l.take n).take k).map fun x => ((x : Int) : Rat)
theorem valK_all (l : List Int) (n : Nat) : valK l n l.length = valQ l n := by unfold valK valQ; rw [List.take_of_length_le (by rw [List.length_take]; omega)]
theorem valK_len (l : List Int) (n k : Nat) : (valK l n k).length ≤ n := by unfold valK; rw [List.length_map, List.length_take, List.length_take]; omega
theorem valK_yes {l : List Int} {n k : Nat} (h : k < l.length) (hn : k < n) {z : Int} (hz : nthI l k = z) : valK l n (k + 1) = valK l n k ++ [((z : Int) : Rat)] := by
  unfold valK
  have e : k < (l.take n).length := by rw [List.length_take]; omega
  rw [List.take_succ_eq_append_getElem e, List.map_append, List.getElem_take]
  have e2 : l[k] = nthI l k := by
    have := nthI_some h
    rw [List.getElem?_eq_getElem h] at this
    injection this
  rw [e2, hz]; rfl
theorem valK_no {l : List Int} {n k : Nat} (hn : ¬ k < n) : valK l n (k + 1) = valK l n k := by
  unfold valK
  have e : (l.take n).length ≤ n := by rw [List.length_take]; omega
  rw [List.take_of_length_le (l := l.take n) (i := k + 1) (by omega), List.take_of_length_le (l := l.take n) (i := k) (by omega)]
theorem valQ_len (l : List Int) (n : Nat) : (valQ l n).length ≤ n ∧ (0 < n → 0 < l.length → 0 < (valQ l n).length) ∧ (l.length = 0 → (valQ l n).length = 0) := by unfold valQ; rw [List.length_map, List.length_take]; omega
theorem valQ_sz {l : List Int} (hl : ∀ x ∈ l, -128 ≤ x ∧ x ≤ 127) {n i : Nat} (h : i < (valQ l n).length) : SzQ 1 (nthQ (valQ l n) i) := by
  have e := nthQ_some h
  have m := List.mem_of_getElem? e
  unfold valQ at m
  obtain ⟨x, hx, hq⟩ := List.mem_map.1 m
  show SzQ 1 (nthQ (valQ l n) i)
  unfold valQ
  rw [← hq]
  have := hl x (List.mem_of_mem_take hx)
  exact szQ_int (by omega)
theorem gR_sz {t x : Rat} (ht : SzQ 1 t) (hx : SzQ 1 x) : SzQ 10 (gR t x) := (((hx.mul hx).mul hx).add (hx.mul ht)).mono (by decide)
theorem mapG_sz {t : Rat} (ht : SzQ 1 t) {A : List Rat} (hA : ∀ i, i < A.length → SzQ 1 (nthQ A i)) (i : Nat) (hi : i < (A.reverse.map (gR t)).length) : SzQ 10 (nthQ (A.reverse.map (gR t)) i) := by
  have e := nthQ_some hi
  have m := List.mem_of_getElem? e
  obtain ⟨x, hx, hq⟩ := List.mem_map.1 m
  rw [← hq]
  obtain ⟨j, hj, hxj⟩ := List.getElem_of_mem (List.mem_reverse.1 hx)
  have : nthQ A j = x := by
    have := nthQ_some hj
    rw [List.getElem?_eq_getElem hj, hxj] at this
    injection this with this
    exact this.symm
  exact gR_sz ht (this ▸ hA j hj)
theorem app_sz {A B : List Rat} {K : Nat} (hA : ∀ i, i < A.length → SzQ K (nthQ A i)) (hB : ∀ i, i < B.length → SzQ K (nthQ B i)) (hK : K ≤ 100000) (i : Nat) (hi : i < (A ++ B).length) : SzQ 100000 (nthQ (A ++ B) i) := by
  have e := nthQ_some hi
  by_cases h : i < A.length
  · rw [List.getElem?_append_left h, nthQ_some h] at e
    injection e with e
    rw [← e]; exact (hA i h).mono hK
  · have hl : (A ++ B).length = A.length + B.length := List.length_append
    rw [List.getElem?_append_right (by omega), nthQ_some (show i - A.length < B.length by omega)] at e
    injection e with e
    rw [← e]; exact (hB _ (by omega)).mono hK

set_option maxRecDepth 100000 in
set_option maxHeartbeats 4000000 in
theorem l8_values {v : Value} {l : List Int} {n : Nat} (w : World) (hl : RowsI 1 I8C w v l) (hl8 : ∀ x ∈ l, -128 ≤ x ∧ x ≤ 127) (hn : n ≤ 20) : Calls Try.prog 18 #[v, .int .i64 n] w (Ret1 (fun w v => Rows 3 26 PC w v (valQ l n)) w) := by
  obtain ⟨ao, cap, rfl, hc1, hc2, hc3⟩ := hl.slice
  have hs := Below.refl w.heap.size w
  have HLI := Lib.hid hl
  have HL8 := Lib.hid hl8
  clear hl hl8
  obtain ⟨i0, hi, hz0, hz1, hz2⟩ := info_parts alP_info
  go_enter Try.func18, Try.ntmps18
  go_wp2
  go_loopw [5, 10] (fun s5 s10 wq => ∃ k : Nat, k ≤ l.length ∧ s10 = .int .i64 k ∧ Below w.heap.size w wq ∧ OwnR w.heap.size 26 3 PC wq s5 (valK l n k)) (fun s5 s10 _ => l.length - (intOf s10).toNat)
  case atStart => exact ⟨0, Nat.zero_le _, rfl, hs, OwnR.nil _ _ _ _ _⟩
  case round =>
    clear hs
    obtain ⟨k, k_le, rfl, hs, Oou⟩ := hrel
    have lnv := valK_len l n k
    by_cases q1 : k < l.length
    · have q1d : ((k : Int) < (l.length : Int)) = True := eq_true (by omega)
      obtain ⟨bbe2, ooe2, cce2, hve2, Ee2, le2⟩ := rowI8_at (HLI.out.mono I8C.kept hs) (show k < l.length by omega)
      obtain ⟨rfl, rfl⟩ := sliceE hve2
      obtain ⟨ze2, Hze2⟩ : ∃ z : Int, z = nthI l k := ⟨_, rfl⟩
      rw [← Hze2] at Ee2
      obtain ⟨bze21, bze22⟩ : -128 ≤ ze2 ∧ ze2 ≤ 127 := by rw [Hze2]; exact HL8.out _ (List.mem_of_getElem? (nthI_some (show k < l.length by omega)))
      replace Hze2 := Lib.hid Hze2.symm
      by_cases q3 : k < n
      · have q3d : ((k : Int) < (n : Int)) = True := eq_true (by omega)
        go_wp2_with fail
        clear le2 Ee2
        with_reducible refine (p_Int_8 (n := ze2) _ rfl (by omega) (by omega)).mono ?_
        rintro e w21 ⟨_, rfl, h4, hb⟩
        obtain ⟨sh4, ah4, nh4, ch4, Ah4, Nh4, Ch4, rfl⟩ := h4.shape
        replace hs := bStep hs hb
        replace Oou := Oou.mono PC.kept hb
        clear hb
        go_wp2_with (at_builtin; refine wpList.stop ?_)
        refine ⟨?_⟩
        refine wpList.abs ?_
        intro w22 hW
        have hG : Gr [] w21 w22 := by rw [hW]; exact (Gr.refl _ _).alloc
        have hbw : Below w.heap.size w21 w22 := hG.below0 hs.size
        have hk : KeepD w21 w22 := hG.keep True.intro
        have sz_w22 : w.heap.size ≤ w21.heap.size := hs.size
        have Blls : Bx w22 (w21.heap.size) 26 #[.bool sh4, .slice ah4 nh4 ch4, .slice Ah4 Nh4 Ch4] := by rw [hW]; exact (Bx.new0 _ _ _)
        replace hs := hs.trans hbw
        replace h4 := h4.keep hk
        replace Oou := Oou.mono PC.kept (hG.below0 (Nat.le_refl _))
        clear hW hG hk hbw
        have hz_w22 : w21.heap.size < w22.heap.size := Blls.lt
        obtain ⟨css, ho1, ho2, ho3, hown0⟩ := Oou
        refine wpList_append_lies _ rfl _ _ _ rfl w.heap.size 26 i0 _ 3 56 Try.underlying41 hi hz0 hz1 hz2 rfl (by omega) _ _ css.flatten rfl hown0 ⟨w21.heap.size, 0, none⟩ 1 1 [.bool sh4, .slice ah4 nh4 ch4, .slice Ah4 Nh4 Ch4] rfl rfl Blls.news ?_ (by omega) ?_ ?_ ?_ _ rfl ?_
        · intro u hu; simp only [List.mem_cons, List.mem_nil_iff, or_false] at hu; rcases hu with rfl | rfl | rfl <;> rfl
        · unfold maxLen; (try simp only [List.length_append, List.length_cons, List.length_nil]); omega
        · (try simp only [List.length_append, List.length_cons, List.length_nil]); omega
        · exact hs.size
        intro gou capou w23 hown1 hgrow hat hlt_
        have hk_ := KeepD.owns hown0 hgrow (by decide)
        have ho := owns_onlyT hown0 hgrow
        replace hs := hs.grown hgrow hs.size (fun k hk => (hown0.lt k hk).1)
        replace Oou := OwnR.push' PC.kept ho1 ho2 ho3 (x := ((ze2 : Int) : Rat)) rfl ⟨_, _, _, rfl, h4⟩ (by simp) hown1 hk_
        replace h4 := h4.keep hk_
        clear hk_ ho ho1 ho2 ho3 hown0 hown1 hgrow hat hlt_ Blls
        go_wp2
        go_roundw
        case rel => exact ⟨k + 1, by omega, by go_num, hs, by rw [valK_yes (show k < l.length by omega) (show k < n by omega) Hze2.out]; exact Oou⟩
        all_goals first | (simp [intOf]; done) | (simp [intOf]; omega)
      · have q3d : ((k : Int) < (n : Int)) = False := eq_false (by omega)
        go_wp2
        go_roundw
        case rel => exact ⟨k + 1, by omega, by go_num, hs, by rw [valK_no (show ¬ k < n by omega)]; exact Oou⟩
        all_goals first | (simp [intOf]; done) | (simp [intOf]; omega)
    · have q1d : ((k : Int) < (l.length : Int)) = False := eq_false (by omega)
      obtain rfl : k = l.length := by omega
      go_wp2
      have hR := Oou.rows
      rw [valK_all] at hR
      go_ret
      exact ⟨_, rfl, hR, hs⟩

theorem l8_values5 {v : Value} {l : List Int} (w : World) (hl : RowsI 1 I8C w v l) (hl8 : ∀ x ∈ l, -128 ≤ x ∧ x ≤ 127) : Calls Try.prog 18 #[v, .int .i64 5] w (Ret1 (fun w v => Rows 3 26 PC w v (valQ l 5)) w) := l8_values (n := 5) w hl hl8 (by decide)
set_option maxRecDepth 100000 in
set_option maxHeartbeats 4000000 in
theorem l8_rising {v : Value} {L : List Rat} {g : Nat} {tt : Int} {t : Rat} (w : World) (hl : Rows 3 26 PC w v L) (hB : Bx w g 5 #[.int .u8 tt]) (h1 : 1 ≤ L.length) (h5 : L.length ≤ 20) (hz : ∀ i, i < L.length → SzQ 1 (nthQ L i)) (ht : ((tt : Int) : Rat) = t) (st : SzQ 1 t) (t0 : 0 ≤ tt) (t1 : tt ≤ 255) : Calls Try.prog 19 #[v, .pointer (some ⟨g, 0, none⟩)] w (Ret1 (fun w v => Rows 3 26 PC w v (L.reverse.map (gR t))) w) := by
  obtain ⟨bhl, ohl, khl, rfl, hl1, hl2, -⟩ := hl.open_ (by omega)
  have HLZ := Lib.hid hz
  have HT := Lib.hid ht
  have Bltimes := hB
  clear hz ht hB
  have hs := Below.refl w.heap.size w
  obtain ⟨i0, hi, hz0, hz1, hz2⟩ := info_parts alP_info
  go_enter Try.func19, Try.ntmps19
  go_wp2
  have lbl : bhl < w.heap.size := hl.lt (by omega)
  have HB0_1 := Lib.hid hs
  clear hs
  have hs := Below.refl w.heap.size w
  have nb_times : g < w.heap.size := Bltimes.lt
  have Fhl := Lib.hid hl
  clear hl
  go_loopw [4, 5] (fun s4 s5 wq => ∃ k : Nat, k ≤ L.length ∧ s5 = .int .i64 ((k : Int) - 1) ∧ Below w.heap.size w wq ∧ Bx wq (g) 5 #[.int .u8 tt] ∧ OwnR w.heap.size 26 3 PC wq s4 (rsR t L (L.length - k))) (fun s4 s5 _ => (intOf s5 + 1).toNat)
  case atStart => exact ⟨L.length, Nat.le_refl _, rfl, hs, Bltimes, by rw [Nat.sub_self]; exact OwnR.nil _ _ _ _ _⟩
  case round =>
    clear hs Bltimes
    obtain ⟨k, k_le, rfl, hs, Bltimes, Oou⟩ := hrel
    by_cases hk : 0 < k
    · obtain ⟨j, rfl⟩ : ∃ j, k = j + 1 := ⟨k - 1, by omega⟩
      rw [show (((j + 1 : Nat) : Int)) - 1 = (j : Int) by omega]
      have lnr := rsR_len t L (L.length - (j + 1))
      have q2 : 0 ≤ j := (by omega)
      have q2d : ((0 : Int) ≤ (j : Int)) = True := eq_true (by omega)
      go_upto_region 5 with fail
      have BI3a : j < L.length := by omega
      have BI3b : ((j : Int) : Int) < (L.length : Int) := by omega
      obtain ⟨ge4a, ae4a, ne4a, ce4a, Ae4a, Ne4a, De4a, Ee40, Ee41, Ee42, he4a, le4⟩ := rowP_at (rowsJ PC.kept _ _ _ Fhl.out hs) (show j < L.length by omega)
      refine U_region (S := fun w' => w'.cell? ⟨g, 0, none⟩ = some (.int .u8 tt) ∧ w'.cell? ⟨bhl, ohl + j * 3, none⟩ = some (.bool ge4a) ∧ w'.cell? ⟨bhl, ohl + j * 3 + 1, none⟩ = some (.slice ae4a ne4a ce4a) ∧ w'.cell? ⟨bhl, ohl + j * 3 + 2, none⟩ = some (.slice Ae4a Ne4a De4a)) (by kernel_rfl) 26 ?_
      refine AnyU.abs ?_
      intro w21 hW
      have hb : Below wr.heap.size wr w21 := by rw [hW]; exact bDrew _
      replace hs := bStep hs hb
      replace Bltimes := Bltimes.mono hb
      replace he4a := he4a.mono hb
      replace Oou := Oou.mono PC.kept hb
      replace Ee40 := cellK Ee40 hb
      replace Ee41 := cellK Ee41 hb
      replace Ee42 := cellK Ee42 hb
      clear hb hW
      have ctimes_0 : w21.cell? ⟨g, 0, none⟩ = some (.int .u8 tt) := Bltimes.at 0 rfl
      have hH := (show w21.cell? ⟨g, 0, none⟩ = some (.int .u8 tt) ∧ w21.cell? ⟨bhl, ohl + j * 3, none⟩ = some (.bool ge4a) ∧ w21.cell? ⟨bhl, ohl + j * 3 + 1, none⟩ = some (.slice ae4a ne4a ce4a) ∧ w21.cell? ⟨bhl, ohl + j * 3 + 2, none⟩ = some (.slice Ae4a Ne4a De4a) from ⟨ctimes_0, Ee40, Ee41, Ee42⟩)
      refine U_tt 0 ?_ ?_ hH ?_
      rotate_left
      · (intro w hSw; (try dsimp only at hSw); go_simp; try with_reducible rfl)
      try simp only [LY]
      refine U_tt 1 ?_ ?_ hH ?_
      rotate_left
      · (intro w hSw; (try dsimp only at hSw); go_simp; try with_reducible rfl)
      try simp only [LY]
      refine U_tt 2 ?_ ?_ hH ?_
      rotate_left
      · (intro w hSw; (try dsimp only at hSw); go_simp; try with_reducible rfl)
      try simp only [LY]
      refine U_tt 3 ?_ ?_ hH ?_
      rotate_left
      · (intro w hSw; (try dsimp only at hSw); go_simp; try with_reducible rfl)
      try simp only [LY]
      refine U_tt 4 ?_ ?_ hH ?_
      rotate_left
      · (intro w hSw; (try dsimp only at hSw); go_simp; try with_reducible rfl)
      try simp only [LY]
      refine U_tt 5 ?_ ?_ hH ?_
      rotate_left
      · (intro w hSw; (try dsimp only at hSw); go_simp; try with_reducible rfl)
      try simp only [LY]
      refine U_tt 6 ?_ ?_ hH ?_
      rotate_left
      · (intro w hSw; (try dsimp only at hSw); go_simp; try with_reducible rfl)
      try simp only [LY]
      refine U_tt 7 ?_ ?_ hH ?_
      rotate_left
      · (intro w hSw; (try dsimp only at hSw); go_simp; try with_reducible rfl)
      try simp only [LY]
      refine U_tt 8 ?_ ?_ hH ?_
      rotate_left
      · (intro w hSw; (try dsimp only at hSw); go_simp; try with_reducible rfl)
      try simp only [LY]
      refine U_tt 10 ?_ ?_ hH ?_
      rotate_left
      · (intro w hSw; (try dsimp only at hSw); go_simp; try with_reducible rfl)
      try simp only [LY]
      refine U_tt 11 ?_ ?_ hH ?_
      rotate_left
      · (intro w hSw; (try dsimp only at hSw); go_simp; try with_reducible rfl)
      try simp only [LY]
      refine U_tt 12 ?_ ?_ hH ?_
      rotate_left
      · (intro w hSw; (try dsimp only at hSw); go_simp; try with_reducible rfl)
      try simp only [LY]
      refine U_tt 13 ?_ ?_ hH ?_
      rotate_left
      · (intro w hSw; (try dsimp only at hSw); go_simp; try with_reducible rfl)
      try simp only [LY]
      refine U_tt 15 ?_ ?_ hH ?_
      rotate_left
      · (intro w hSw; (try dsimp only at hSw); go_simp; try with_reducible rfl)
      try simp only [LY]
      refine U_tt 16 ?_ ?_ hH ?_
      rotate_left
      · (intro w hSw; (try dsimp only at hSw); go_simp; try with_reducible rfl)
      try simp only [LY]
      refine U_tt 17 ?_ ?_ hH ?_
      rotate_left
      · (intro w hSw; (try dsimp only at hSw); go_simp; try with_reducible rfl)
      try simp only [LY]
      refine U_tt 18 ?_ ?_ hH ?_
      rotate_left
      · (intro w hSw; (try dsimp only at hSw); go_simp; try with_reducible rfl)
      try simp only [LY]
      refine U_tt 19 ?_ ?_ hH ?_
      rotate_left
      · (intro w hSw; (try dsimp only at hSw); go_simp; try with_reducible rfl)
      try simp only [LY]
      refine U_tt 20 ?_ ?_ hH ?_
      rotate_left
      · (intro w hSw; (try dsimp only at hSw); go_simp; try with_reducible rfl)
      try simp only [LY]
      clear hH
      refine U_one (i := 9) (by kernel_rfl) rfl (fun K hK => ?_)
      go_simp
      (with_reducible refine (pMul he4a he4a (SzQ.fit (HLZ.out j (by omega))) (SzQ.fit (HLZ.out j (by omega)))).mono ?_)
      rintro e w22 ⟨_, rfl, h5, hb⟩
      obtain ⟨sh5, ah5, nh5, ch5, Ah5, Nh5, Ch5, rfl⟩ := h5.shape
      replace hs := bStep hs hb
      replace Bltimes := Bltimes.mono hb
      replace he4a := he4a.mono hb
      replace Oou := Oou.mono PC.kept hb
      replace ctimes_0 := cellK ctimes_0 hb
      replace Ee40 := cellK Ee40 hb
      replace Ee41 := cellK Ee41 hb
      replace Ee42 := cellK Ee42 hb
      clear hb
      try go_wp2_with fail
      refine hK.out _ _ ⟨ctimes_0, Ee40, Ee41, Ee42⟩ (fun hH => ?_)
      clear hK K
      try simp only [LY]
      clear hH
      refine U_one (i := 14) (by kernel_rfl) rfl (fun K hK => ?_)
      go_simp
      (with_reducible refine (pMul h5 he4a (SzQ.fit (SzQ.mul (HLZ.out j (by omega)) (HLZ.out j (by omega)))) (SzQ.fit (HLZ.out j (by omega)))).mono ?_)
      rintro e w23 ⟨_, rfl, h6, hb⟩
      obtain ⟨sh6, ah6, nh6, ch6, Ah6, Nh6, Ch6, rfl⟩ := h6.shape
      replace hs := bStep hs hb
      replace Bltimes := Bltimes.mono hb
      replace he4a := he4a.mono hb
      replace h5 := h5.mono hb
      replace Oou := Oou.mono PC.kept hb
      replace ctimes_0 := cellK ctimes_0 hb
      replace Ee40 := cellK Ee40 hb
      replace Ee41 := cellK Ee41 hb
      replace Ee42 := cellK Ee42 hb
      clear hb
      try go_wp2_with fail
      refine hK.out _ _ ⟨ctimes_0, Ee40, Ee41, Ee42⟩ (fun hH => ?_)
      clear hK K
      try simp only [LY]
      clear hH
      refine U_one (i := 21) (by kernel_rfl) rfl (fun K hK => ?_)
      go_simp
      (with_reducible refine (p_Int_w (n := tt) _ HT.out (by omega) (by omega)).mono ?_)
      rintro e w24 ⟨_, rfl, h7, hb⟩
      obtain ⟨sh7, ah7, nh7, ch7, Ah7, Nh7, Ch7, rfl⟩ := h7.shape
      replace hs := bStep hs hb
      replace Bltimes := Bltimes.mono hb
      replace he4a := he4a.mono hb
      replace h5 := h5.mono hb
      replace h6 := h6.mono hb
      replace Oou := Oou.mono PC.kept hb
      replace ctimes_0 := cellK ctimes_0 hb
      replace Ee40 := cellK Ee40 hb
      replace Ee41 := cellK Ee41 hb
      replace Ee42 := cellK Ee42 hb
      clear hb
      try go_wp2_with fail
      refine hK.out _ _ ⟨ctimes_0, Ee40, Ee41, Ee42⟩ (fun hH => ?_)
      clear hK K
      try simp only [LY]
      clear hH
      refine U_one (i := 22) (by kernel_rfl) rfl (fun K hK => ?_)
      go_simp
      (with_reducible refine (pMul he4a h7 (SzQ.fit (HLZ.out j (by omega))) (SzQ.fit st)).mono ?_)
      rintro e w25 ⟨_, rfl, h8, hb⟩
      obtain ⟨sh8, ah8, nh8, ch8, Ah8, Nh8, Ch8, rfl⟩ := h8.shape
      replace hs := bStep hs hb
      replace Bltimes := Bltimes.mono hb
      replace he4a := he4a.mono hb
      replace h5 := h5.mono hb
      replace h6 := h6.mono hb
      replace h7 := h7.mono hb
      replace Oou := Oou.mono PC.kept hb
      replace ctimes_0 := cellK ctimes_0 hb
      replace Ee40 := cellK Ee40 hb
      replace Ee41 := cellK Ee41 hb
      replace Ee42 := cellK Ee42 hb
      clear hb
      try go_wp2_with fail
      refine hK.out _ _ ⟨ctimes_0, Ee40, Ee41, Ee42⟩ (fun hH => ?_)
      clear hK K
      try simp only [LY]
      clear hH
      refine U_one (i := 23) (by kernel_rfl) rfl (fun K hK => ?_)
      go_simp
      (with_reducible refine (pAdd h6 h8 (SzQ.fit (SzQ.mul (SzQ.mul (HLZ.out j (by omega)) (HLZ.out j (by omega))) (HLZ.out j (by omega)))) (SzQ.fit (SzQ.mul (HLZ.out j (by omega)) st))).mono ?_)
      rintro e w26 ⟨_, rfl, h9, hb⟩
      obtain ⟨sh9, ah9, nh9, ch9, Ah9, Nh9, Ch9, rfl⟩ := h9.shape
      replace hs := bStep hs hb
      replace Bltimes := Bltimes.mono hb
      replace he4a := he4a.mono hb
      replace h5 := h5.mono hb
      replace h6 := h6.mono hb
      replace h7 := h7.mono hb
      replace h8 := h8.mono hb
      replace Oou := Oou.mono PC.kept hb
      replace ctimes_0 := cellK ctimes_0 hb
      replace Ee40 := cellK Ee40 hb
      replace Ee41 := cellK Ee41 hb
      replace Ee42 := cellK Ee42 hb
      clear hb
      try go_wp2_with fail
      refine hK.out _ _ ⟨ctimes_0, Ee40, Ee41, Ee42⟩ (fun hH => ?_)
      clear hK K
      try simp only [LY]
      clear hH
      refine U_one (i := 24) (by kernel_rfl) rfl (fun K hK => ?_)
      go_simp
      generalize hWn : (w26.alloc (.cells #[.bool sh9, .slice ah9 nh9 ch9, .slice Ah9 Nh9 Ch9] 26)) = w27
      have hb : Below w26.heap.size w26 w27 := by rw [← hWn]; exact (Below.refl _ _).alloc (Nat.le_refl _) _
      have Blls : Bx w27 (w26.heap.size) 26 #[.bool sh9, .slice ah9 nh9 ch9, .slice Ah9 Nh9 Ch9] := by rw [← hWn]; exact Bx.new _ _ _
      have ntimes_ls : g ≠ w26.heap.size := by have := Bltimes.lt; omega
      have sz_ls : w.heap.size ≤ w26.heap.size := hs.size
      replace hs := bStep hs hb
      replace Bltimes := Bltimes.mono hb
      replace he4a := he4a.mono hb
      replace h5 := h5.mono hb
      replace h6 := h6.mono hb
      replace h7 := h7.mono hb
      replace h8 := h8.mono hb
      replace h9 := h9.mono hb
      replace Oou := Oou.mono PC.kept hb
      replace ctimes_0 := cellK ctimes_0 hb
      replace Ee40 := cellK Ee40 hb
      replace Ee41 := cellK Ee41 hb
      replace Ee42 := cellK Ee42 hb
      clear hb hWn
      refine hK.out _ _ ⟨ctimes_0, Ee40, Ee41, Ee42⟩ (fun hH => ?_)
      clear hK K
      try simp only [LY]
      clear hH
      refine U_one (i := 25) (by kernel_rfl) rfl (fun K hK => ?_)
      obtain ⟨css, ho1, ho2, ho3, hown0⟩ := Oou
      simp only [List.getElem_toArray, List.getElem_cons_succ, List.getElem_cons_zero]
      rw [if_pos (by rfl)]
      refine wp_append_lies _ _ _ _ (by rfl) w.heap.size 26 i0 _ 3 56 Try.underlying41 hi hz0 hz1 hz2 (by rfl) (by omega) _ _ css.flatten (by rfl) hown0 ⟨w26.heap.size, 0, none⟩ 1 1 [.bool sh9, .slice ah9 nh9 ch9, .slice Ah9 Nh9 Ch9] (by rfl) (by rfl) Blls.news ?_ (by omega) ?_ ?_ ?_ _ rfl ?_
      · intro u hu; simp only [List.mem_cons, List.mem_nil_iff, or_false] at hu; rcases hu with rfl | rfl | rfl <;> rfl
      · unfold maxLen; (try simp only [List.length_append, List.length_cons, List.length_nil]); omega
      · (try simp only [List.length_append, List.length_cons, List.length_nil]); omega
      · exact hs.size
      intro gou capou w28 hown1 hgrow hat hlt
      have hk := KeepD.owns hown0 hgrow (by decide)
      have ho := owns_onlyT hown0 hgrow
      replace Ee40 := hgrow.cell Ee40 (fun e => by have := (hown0.lt _ e.symm).1; simp only at this; omega)
      replace Ee41 := hgrow.cell Ee41 (fun e => by have := (hown0.lt _ e.symm).1; simp only at this; omega)
      replace Ee42 := hgrow.cell Ee42 (fun e => by have := (hown0.lt _ e.symm).1; simp only at this; omega)
      replace hs := hs.grown hgrow hs.size (fun k hk => (hown0.lt k hk).1)
      replace Oou := OwnR.push PC.kept ho1 ho2 ho3 (x := ((nthQ L j * nthQ L j) * nthQ L j) + (nthQ L j * t)) rfl ⟨_, _, _, rfl, h9⟩ hown1 hk
      replace Bltimes := Bltimes.only ho (by decide)
      replace he4a := he4a.keep hk
      replace h5 := h5.keep hk
      replace h6 := h6.keep hk
      replace h7 := h7.keep hk
      replace h8 := h8.keep hk
      replace h9 := h9.keep hk
      replace ctimes_0 := Bltimes.at 0 rfl
      clear hk ho ho1 ho2 ho3 hown0 hown1 hgrow Blls
      refine hK.out _ _ ⟨ctimes_0, Ee40, Ee41, Ee42⟩ (fun hH => ?_)
      clear hK K
      try simp only [LY]
      clear hH
      refine U_last (by kernel_rfl) rfl (by kernel_rfl) (fun K hK => ?_)
      go_simp
      refine hK.out _ _ ?_
      clear hK K
      intro wl hW
      rw [hW]
      clear hW wl
      try simp only [LY]
      clear ctimes_0 Ee40 Ee41 Ee42
      go_wp2
      go_roundw
      case rel => exact ⟨j, by omega, rfl, hs, Bltimes, by rw [rsR_next (show j < L.length by omega)]; exact Oou⟩
      all_goals first | (simp [intOf]; done) | (simp [intOf]; omega)
    · obtain rfl : k = 0 := by omega
      rw [show (((0 : Nat) : Int)) - 1 = -1 by omega]
      have hR := Oou.rows
      clear Oou
      replace hs := bStep HB0_1.out hs
      go_wp2
      skip
      rw [Nat.sub_zero, rsR_all] at hR
      go_ret
      exact ⟨_, rfl, hR, hs⟩

theorem p_Same_eq {va vb : Value} {q : Rat} {w : World} (h1 : PV w va q) (h2 : PV w vb q) : Calls Try.prog 15 #[va, vb] w (RetV w (.bool true)) := by
  have h := p_Same_calls _ _ _ _ w h1 h2
  rwa [decide_eq_true rfl] at h

set_option maxRecDepth 100000 in
set_option maxHeartbeats 16000000 in
theorem l8_Same_nil1 (v vm : Value) (l m : List Int) (tt : Int) (w : World) (hl : RowsI 1 I8C w v l) (hm : RowsI 1 I8C w vm m) (hl8 : ∀ x ∈ l, -128 ≤ x ∧ x ≤ 127) (hm8 : ∀ x ∈ m, -128 ≤ x ∧ x ≤ 127) (A Bv : List Rat) (hA : valQ l 5 = A) (hB : valQ m 5 = Bv) (h0 : A.length = 0) :
    Calls Try.prog 4 #[v, vm, .int .u8 tt] w (RetV w (.bool true)) := by
  obtain ⟨ao, cap, rfl, hc1, hc2, hc3⟩ := hl.slice
  obtain ⟨ai, ci, rfl, hd1, hd2, hd3⟩ := hm.slice
  have hs := Below.refl w.heap.size w
  have HL := Lib.hid hl
  have HMI := Lib.hid hm
  have HL8 := Lib.hid hl8
  have HM8 := Lib.hid hm8
  have HA := Lib.hid hA
  have HBB := Lib.hid hB
  clear hl hm hl8 hm8 hA hB
  go_enter Try.func4, Try.ntmps4
  go_wp2_with fail
  refine Calls.abs ?_
  intro w1 hW
  have hG : Gr [] w w1 := by rw [hW]; exact (Gr.refl _ _).alloc
  have hbw : Below w.heap.size w w1 := hG.below0 hs.size
  have hk : KeepD w w1 := hG.keep True.intro
  have sz_w1 : w.heap.size ≤ w.heap.size := hs.size
  have Bltimes : Bx w1 (w.heap.size) 5 #[.int .u8 tt] := by rw [hW]; exact (Bx.new0 _ _ _)
  replace hs := hs.trans hbw
  clear hW hG hk hbw
  have hz_w1 : w.heap.size < w1.heap.size := Bltimes.lt
  with_reducible refine (l8_values5 _ (HL.out.mono I8C.kept hs) HL8.out).mono ?_
  rintro e w2 ⟨_, rfl, hA1, hb⟩
  rw [HA.out] at hA1
  obtain ⟨ahA1, khA1, rfl, hA11, hA12, -⟩ := hA1.toI.slice
  replace hs := bStep hs hb
  replace Bltimes := Bltimes.mono hb
  clear hb
  go_wp2_with fail
  with_reducible refine (l8_values5 _ (HMI.out.mono I8C.kept hs) HM8.out).mono ?_
  rintro e w3 ⟨_, rfl, hB2, hb⟩
  rw [HBB.out] at hB2
  obtain ⟨ahB2, khB2, rfl, hB21, hB22, -⟩ := hB2.toI.slice
  replace hs := bStep hs hb
  replace Bltimes := Bltimes.mono hb
  replace hA1 := rowsJ PC.kept _ _ _ hA1 hb
  clear hb
  go_wp2_with fail
  with_reducible refine (l8_awake _).mono ?_
  rintro e w4 ⟨rfl, hb⟩
  replace hs := bStep hs hb
  replace Bltimes := Bltimes.mono hb
  replace hA1 := rowsJ PC.kept _ _ _ hA1 hb
  replace hB2 := rowsJ PC.kept _ _ _ hB2 hb
  clear hb
  have q3 : A.length = 0 := h0
  have q3b : ((A.length : Int) == 0) = true := beq_iff_eq.2 (by omega)
  have q3n : ((A.length : Int) != 0) = false := bne_eq_false_iff_eq.2 (by omega)
  have q3H := Lib.hid q3
  clear q3
  go_wp2_with fail
  with_reducible refine (l8_awake _).mono ?_
  rintro e w5 ⟨rfl, hb⟩
  replace hs := bStep hs hb
  replace Bltimes := Bltimes.mono hb
  replace hA1 := rowsJ PC.kept _ _ _ hA1 hb
  replace hB2 := rowsJ PC.kept _ _ _ hB2 hb
  clear hb
  go_wp2
  go_ret
  exact ⟨rfl, hs⟩

set_option maxRecDepth 100000 in
set_option maxHeartbeats 16000000 in
theorem l8_Same_nil2 (v vm : Value) (l m : List Int) (tt : Int) (w : World) (hl : RowsI 1 I8C w v l) (hm : RowsI 1 I8C w vm m) (hl8 : ∀ x ∈ l, -128 ≤ x ∧ x ≤ 127) (hm8 : ∀ x ∈ m, -128 ≤ x ∧ x ≤ 127) (A Bv : List Rat) (hA : valQ l 5 = A) (hB : valQ m 5 = Bv) (h0 : ¬ A.length = 0) (h1 : Bv.length = 0) :
    Calls Try.prog 4 #[v, vm, .int .u8 tt] w (RetV w (.bool true)) := by
  obtain ⟨ao, cap, rfl, hc1, hc2, hc3⟩ := hl.slice
  obtain ⟨ai, ci, rfl, hd1, hd2, hd3⟩ := hm.slice
  have hs := Below.refl w.heap.size w
  have HL := Lib.hid hl
  have HMI := Lib.hid hm
  have HL8 := Lib.hid hl8
  have HM8 := Lib.hid hm8
  have HA := Lib.hid hA
  have HBB := Lib.hid hB
  clear hl hm hl8 hm8 hA hB
  go_enter Try.func4, Try.ntmps4
  go_wp2_with fail
  refine Calls.abs ?_
  intro w1 hW
  have hG : Gr [] w w1 := by rw [hW]; exact (Gr.refl _ _).alloc
  have hbw : Below w.heap.size w w1 := hG.below0 hs.size
  have hk : KeepD w w1 := hG.keep True.intro
  have sz_w1 : w.heap.size ≤ w.heap.size := hs.size
  have Bltimes : Bx w1 (w.heap.size) 5 #[.int .u8 tt] := by rw [hW]; exact (Bx.new0 _ _ _)
  replace hs := hs.trans hbw
  clear hW hG hk hbw
  have hz_w1 : w.heap.size < w1.heap.size := Bltimes.lt
  with_reducible refine (l8_values5 _ (HL.out.mono I8C.kept hs) HL8.out).mono ?_
  rintro e w2 ⟨_, rfl, hA1, hb⟩
  rw [HA.out] at hA1
  obtain ⟨ahA1, khA1, rfl, hA11, hA12, -⟩ := hA1.toI.slice
  replace hs := bStep hs hb
  replace Bltimes := Bltimes.mono hb
  clear hb
  go_wp2_with fail
  with_reducible refine (l8_values5 _ (HMI.out.mono I8C.kept hs) HM8.out).mono ?_
  rintro e w3 ⟨_, rfl, hB2, hb⟩
  rw [HBB.out] at hB2
  obtain ⟨ahB2, khB2, rfl, hB21, hB22, -⟩ := hB2.toI.slice
  replace hs := bStep hs hb
  replace Bltimes := Bltimes.mono hb
  replace hA1 := rowsJ PC.kept _ _ _ hA1 hb
  clear hb
  go_wp2_with fail
  with_reducible refine (l8_awake _).mono ?_
  rintro e w4 ⟨rfl, hb⟩
  replace hs := bStep hs hb
  replace Bltimes := Bltimes.mono hb
  replace hA1 := rowsJ PC.kept _ _ _ hA1 hb
  replace hB2 := rowsJ PC.kept _ _ _ hB2 hb
  clear hb
  have q3 : ¬ (A.length = 0) := h0
  have q3b : ((A.length : Int) == 0) = false := beq_eq_false_iff_ne.2 (by omega)
  have q3n : ((A.length : Int) != 0) = true := bne_iff_ne.2 (by omega)
  have q3H := Lib.hid q3
  clear q3
  have q4 : Bv.length = 0 := h1
  have q4b : ((Bv.length : Int) == 0) = true := beq_iff_eq.2 (by omega)
  have q4n : ((Bv.length : Int) != 0) = false := bne_eq_false_iff_eq.2 (by omega)
  have q4H := Lib.hid q4
  clear q4
  go_wp2_with fail
  with_reducible refine (l8_awake _).mono ?_
  rintro e w5 ⟨rfl, hb⟩
  replace hs := bStep hs hb
  replace Bltimes := Bltimes.mono hb
  replace hA1 := rowsJ PC.kept _ _ _ hA1 hb
  replace hB2 := rowsJ PC.kept _ _ _ hB2 hb
  clear hb
  go_wp2
  go_ret
  exact ⟨rfl, hs⟩

set_option maxRecDepth 100000 in
set_option maxHeartbeats 16000000 in
theorem l8_Same_ok (v vm : Value) (l m : List Int) (tt : Int) (w : World) (hl : RowsI 1 I8C w v l) (hm : RowsI 1 I8C w vm m) (hl8 : ∀ x ∈ l, -128 ≤ x ∧ x ≤ 127) (hm8 : ∀ x ∈ m, -128 ≤ x ∧ x ≤ 127) (A Bv : List Rat) (hA : valQ l 5 = A) (hB : valQ m 5 = Bv) (A1 : 1 ≤ A.length) (A5 : A.length ≤ 5) (B1 : 1 ≤ Bv.length) (B5 : Bv.length ≤ 5) (t0 : 0 ≤ tt) (t1 : tt ≤ 255) (t q : Rat) (ht : ((tt : Int) : Rat) = t) (st : SzQ 1 t) (sq : SzQ 1 q)
    (hAz : ∀ i, i < A.length → SzQ 1 (nthQ A i)) (hBz : ∀ i, i < Bv.length → SzQ 1 (nthQ Bv i)) (GA GB : List Rat) (hGA : A.reverse.map (gR t) = GA) (hGB : Bv.reverse.map (gR t) = GB) (G1 : 1 ≤ GA.length) (G5 : GA.length ≤ 5) (G6 : 1 ≤ GB.length) (G7 : GB.length ≤ 5)
    (z1 : ∀ i, i < (A ++ Bv).length → SzQ 100000 (nthQ (A ++ Bv) i)) (z2 : ∀ i, i < (Bv ++ A).length → SzQ 100000 (nthQ (Bv ++ A) i)) (z3 : ∀ i, i < (GA ++ GB).length → SzQ 100000 (nthQ (GA ++ GB) i)) (z4 : ∀ i, i < (A ++ A).length → SzQ 100000 (nthQ (A ++ A) i))
    (q1 : alA A Bv = q) (q2 : alA Bv A = q) (q3 : alA GA GB = q) (q4 : alA A A = 1) (qb : 0 < q ∧ q ≤ 1) :
    Calls Try.prog 4 #[v, vm, .int .u8 tt] w (RetV w (.bool true)) := by
  obtain ⟨ao, cap, rfl, hc1, hc2, hc3⟩ := hl.slice
  obtain ⟨ai, ci, rfl, hd1, hd2, hd3⟩ := hm.slice
  have hs := Below.refl w.heap.size w
  have HL := Lib.hid hl
  have HMI := Lib.hid hm
  have HL8 := Lib.hid hl8
  have HM8 := Lib.hid hm8
  have HA := Lib.hid hA
  have HBB := Lib.hid hB
  have HT := Lib.hid ht
  have HAZ := Lib.hid hAz
  have HBZ := Lib.hid hBz
  have HGA := Lib.hid hGA
  have HGB := Lib.hid hGB
  have HZ1 := Lib.hid z1
  have HZ2 := Lib.hid z2
  have HZ3 := Lib.hid z3
  have HZ4 := Lib.hid z4
  have HQ1 := Lib.hid q1
  have HQ2 := Lib.hid q2
  have HQ3 := Lib.hid q3
  have HQ4 := Lib.hid q4
  have HQB := Lib.hid qb
  clear hl hm hl8 hm8 hA hB ht hAz hBz hGA hGB z1 z2 z3 z4 q1 q2 q3 q4 qb
  go_enter Try.func4, Try.ntmps4
  go_wp2_with fail
  refine Calls.abs ?_
  intro w1 hW
  have hG : Gr [] w w1 := by rw [hW]; exact (Gr.refl _ _).alloc
  have hbw : Below w.heap.size w w1 := hG.below0 hs.size
  have hk : KeepD w w1 := hG.keep True.intro
  have sz_w1 : w.heap.size ≤ w.heap.size := hs.size
  have Bltimes : Bx w1 (w.heap.size) 5 #[.int .u8 tt] := by rw [hW]; exact (Bx.new0 _ _ _)
  replace hs := hs.trans hbw
  clear hW hG hk hbw
  have hz_w1 : w.heap.size < w1.heap.size := Bltimes.lt
  with_reducible refine (l8_values5 _ (HL.out.mono I8C.kept hs) HL8.out).mono ?_
  rintro e w2 ⟨_, rfl, hA1, hb⟩
  rw [HA.out] at hA1
  obtain ⟨bhA1, ohA1, khA1, rfl, hA11, hA12, -⟩ := hA1.open_ (by omega)
  replace hs := bStep hs hb
  replace Bltimes := Bltimes.mono hb
  clear hb
  go_wp2_with fail
  with_reducible refine (l8_values5 _ (HMI.out.mono I8C.kept hs) HM8.out).mono ?_
  rintro e w3 ⟨_, rfl, hB2, hb⟩
  rw [HBB.out] at hB2
  obtain ⟨bhB2, ohB2, khB2, rfl, hB21, hB22, -⟩ := hB2.open_ (by omega)
  replace hs := bStep hs hb
  replace Bltimes := Bltimes.mono hb
  replace hA1 := rowsJ PC.kept _ _ _ hA1 hb
  clear hb
  go_wp2_with fail
  with_reducible refine (l8_awake _).mono ?_
  rintro e w4 ⟨rfl, hb⟩
  replace hs := bStep hs hb
  replace Bltimes := Bltimes.mono hb
  replace hA1 := rowsJ PC.kept _ _ _ hA1 hb
  replace hB2 := rowsJ PC.kept _ _ _ hB2 hb
  clear hb
  have q3 : ¬ (A.length = 0) := (by omega)
  have q3b : ((A.length : Int) == 0) = false := beq_eq_false_iff_ne.2 (by omega)
  have q3n : ((A.length : Int) != 0) = true := bne_iff_ne.2 (by omega)
  have q3H := Lib.hid q3
  clear q3
  have q4 : ¬ (Bv.length = 0) := (by omega)
  have q4b : ((Bv.length : Int) == 0) = false := beq_eq_false_iff_ne.2 (by omega)
  have q4n : ((Bv.length : Int) != 0) = true := bne_iff_ne.2 (by omega)
  have q4H := Lib.hid q4
  clear q4
  go_wp2_with fail
  with_reducible refine (al_Alike _ hA1 hB2 (by omega) (by omega) (by omega) HZ1.out HQ1.out sq).mono ?_
  rintro e w5 ⟨_, rfl, h5, hb⟩
  obtain ⟨sh5, ah5, nh5, ch5, Ah5, Nh5, Ch5, rfl⟩ := h5.shape
  replace hs := bStep hs hb
  replace Bltimes := Bltimes.mono hb
  replace hA1 := rowsJ PC.kept _ _ _ hA1 hb
  replace hB2 := rowsJ PC.kept _ _ _ hB2 hb
  clear hb
  go_wp2_with fail
  refine Calls.abs ?_
  intro w6 hW
  have hG : Gr [] w5 w6 := by rw [hW]; exact (Gr.refl _ _).alloc
  have hbw : Below w.heap.size w5 w6 := hG.below0 hs.size
  have hk : KeepD w5 w6 := hG.keep True.intro
  have sz_w6 : w.heap.size ≤ w5.heap.size := hs.size
  have ntimes_w6 : w.heap.size < w5.heap.size := Bltimes.lt
  have Blx : Bx w6 (w5.heap.size) 26 #[.bool sh5, .slice ah5 nh5 ch5, .slice Ah5 Nh5 Ch5] := by rw [hW]; exact (Bx.new0 _ _ _)
  replace hs := hs.trans hbw
  replace hA1 := rowsJ PC.kept _ _ _ hA1 (hG.below0 (Nat.le_refl _))
  replace hB2 := rowsJ PC.kept _ _ _ hB2 (hG.below0 (Nat.le_refl _))
  replace Bltimes := hG.bx Bltimes notMem0
  replace h5 := h5.keep hk
  clear hW hG hk hbw
  have hz_w6 : w5.heap.size < w6.heap.size := Blx.lt
  with_reducible refine (al_Alike _ hB2 hA1 (by omega) (by omega) (by omega) HZ2.out HQ2.out sq).mono ?_
  rintro e w7 ⟨_, rfl, h6, hb⟩
  obtain ⟨sh6, ah6, nh6, ch6, Ah6, Nh6, Ch6, rfl⟩ := h6.shape
  replace hs := bStep hs hb
  replace Bltimes := Bltimes.mono hb
  replace Blx := Blx.mono hb
  replace h5 := h5.mono hb
  replace hA1 := rowsJ PC.kept _ _ _ hA1 hb
  replace hB2 := rowsJ PC.kept _ _ _ hB2 hb
  clear hb
  go_wp2_with fail
  refine Calls.abs ?_
  intro w8 hW
  have hG : Gr [] w7 w8 := by rw [hW]; exact (Gr.refl _ _).alloc
  have hbw : Below w.heap.size w7 w8 := hG.below0 hs.size
  have hk : KeepD w7 w8 := hG.keep True.intro
  have sz_w8 : w.heap.size ≤ w7.heap.size := hs.size
  have ntimes_w8 : w.heap.size < w7.heap.size := Bltimes.lt
  have nx_w8 : w5.heap.size < w7.heap.size := Blx.lt
  have Bly : Bx w8 (w7.heap.size) 26 #[.bool sh6, .slice ah6 nh6 ch6, .slice Ah6 Nh6 Ch6] := by rw [hW]; exact (Bx.new0 _ _ _)
  replace hs := hs.trans hbw
  replace hA1 := rowsJ PC.kept _ _ _ hA1 (hG.below0 (Nat.le_refl _))
  replace hB2 := rowsJ PC.kept _ _ _ hB2 (hG.below0 (Nat.le_refl _))
  replace Bltimes := hG.bx Bltimes notMem0
  replace Blx := hG.bx Blx notMem0
  replace h5 := h5.keep hk
  replace h6 := h6.keep hk
  clear hW hG hk hbw
  have hz_w8 : w7.heap.size < w8.heap.size := Bly.lt
  with_reducible refine (l8_rising _ hA1 Bltimes (by omega) (by omega) HAZ.out HT.out st (by omega) (by omega)).mono ?_
  rintro e w9 ⟨_, rfl, hG7, hb⟩
  rw [HGA.out] at hG7
  obtain ⟨bhG7, ohG7, khG7, rfl, hG71, hG72, -⟩ := hG7.open_ (by omega)
  replace hs := bStep hs hb
  replace Bltimes := Bltimes.mono hb
  replace Blx := Blx.mono hb
  replace Bly := Bly.mono hb
  replace h5 := h5.mono hb
  replace h6 := h6.mono hb
  replace hA1 := rowsJ PC.kept _ _ _ hA1 hb
  replace hB2 := rowsJ PC.kept _ _ _ hB2 hb
  clear hb
  go_wp2_with fail
  with_reducible refine (l8_rising _ hB2 Bltimes (by omega) (by omega) HBZ.out HT.out st (by omega) (by omega)).mono ?_
  rintro e w10 ⟨_, rfl, hH8, hb⟩
  rw [HGB.out] at hH8
  obtain ⟨bhH8, ohH8, khH8, rfl, hH81, hH82, -⟩ := hH8.open_ (by omega)
  replace hs := bStep hs hb
  replace Bltimes := Bltimes.mono hb
  replace Blx := Blx.mono hb
  replace Bly := Bly.mono hb
  replace h5 := h5.mono hb
  replace h6 := h6.mono hb
  replace hA1 := rowsJ PC.kept _ _ _ hA1 hb
  replace hB2 := rowsJ PC.kept _ _ _ hB2 hb
  replace hG7 := rowsJ PC.kept _ _ _ hG7 hb
  clear hb
  go_wp2_with fail
  with_reducible refine (al_Alike _ hG7 hH8 (by omega) (by omega) (by omega) HZ3.out HQ3.out sq).mono ?_
  rintro e w11 ⟨_, rfl, h9, hb⟩
  obtain ⟨sh9, ah9, nh9, ch9, Ah9, Nh9, Ch9, rfl⟩ := h9.shape
  replace hs := bStep hs hb
  replace Bltimes := Bltimes.mono hb
  replace Blx := Blx.mono hb
  replace Bly := Bly.mono hb
  replace h5 := h5.mono hb
  replace h6 := h6.mono hb
  replace hA1 := rowsJ PC.kept _ _ _ hA1 hb
  replace hB2 := rowsJ PC.kept _ _ _ hB2 hb
  replace hG7 := rowsJ PC.kept _ _ _ hG7 hb
  replace hH8 := rowsJ PC.kept _ _ _ hH8 hb
  clear hb
  go_wp2_with fail
  refine Calls.abs ?_
  intro w12 hW
  have hG : Gr [] w11 w12 := by rw [hW]; exact (Gr.refl _ _).alloc
  have hbw : Below w.heap.size w11 w12 := hG.below0 hs.size
  have hk : KeepD w11 w12 := hG.keep True.intro
  have sz_w12 : w.heap.size ≤ w11.heap.size := hs.size
  have ntimes_w12 : w.heap.size < w11.heap.size := Bltimes.lt
  have nx_w12 : w5.heap.size < w11.heap.size := Blx.lt
  have ny_w12 : w7.heap.size < w11.heap.size := Bly.lt
  have Blz : Bx w12 (w11.heap.size) 26 #[.bool sh9, .slice ah9 nh9 ch9, .slice Ah9 Nh9 Ch9] := by rw [hW]; exact (Bx.new0 _ _ _)
  replace hs := hs.trans hbw
  replace hA1 := rowsJ PC.kept _ _ _ hA1 (hG.below0 (Nat.le_refl _))
  replace hB2 := rowsJ PC.kept _ _ _ hB2 (hG.below0 (Nat.le_refl _))
  replace hG7 := rowsJ PC.kept _ _ _ hG7 (hG.below0 (Nat.le_refl _))
  replace hH8 := rowsJ PC.kept _ _ _ hH8 (hG.below0 (Nat.le_refl _))
  replace Bltimes := hG.bx Bltimes notMem0
  replace Blx := hG.bx Blx notMem0
  replace Bly := hG.bx Bly notMem0
  replace h5 := h5.keep hk
  replace h6 := h6.keep hk
  replace h9 := h9.keep hk
  clear hW hG hk hbw
  have hz_w12 : w11.heap.size < w12.heap.size := Blz.lt
  with_reducible refine (al_Alike _ hA1 hA1 (by omega) (by omega) (by omega) HZ4.out HQ4.out szQ_one).mono ?_
  rintro e w13 ⟨_, rfl, h10, hb⟩
  obtain ⟨sh10, ah10, nh10, ch10, Ah10, Nh10, Ch10, rfl⟩ := h10.shape
  replace hs := bStep hs hb
  replace Bltimes := Bltimes.mono hb
  replace Blx := Blx.mono hb
  replace Bly := Bly.mono hb
  replace Blz := Blz.mono hb
  replace h5 := h5.mono hb
  replace h6 := h6.mono hb
  replace h9 := h9.mono hb
  replace hA1 := rowsJ PC.kept _ _ _ hA1 hb
  replace hB2 := rowsJ PC.kept _ _ _ hB2 hb
  replace hG7 := rowsJ PC.kept _ _ _ hG7 hb
  replace hH8 := rowsJ PC.kept _ _ _ hH8 hb
  clear hb
  go_upto_region 9 with fail
  refine Code.abs ?_
  intro w14 hW
  have hG : Gr [] w13 w14 := by rw [hW]; exact (Gr.refl _ _).alloc
  have hbw : Below w.heap.size w13 w14 := hG.below0 hs.size
  have hk : KeepD w13 w14 := hG.keep True.intro
  have sz_w14 : w.heap.size ≤ w13.heap.size := hs.size
  have ntimes_w14 : w.heap.size < w13.heap.size := Bltimes.lt
  have nx_w14 : w5.heap.size < w13.heap.size := Blx.lt
  have ny_w14 : w7.heap.size < w13.heap.size := Bly.lt
  have nz_w14 : w11.heap.size < w13.heap.size := Blz.lt
  have Blw : Bx w14 (w13.heap.size) 26 #[.bool sh10, .slice ah10 nh10 ch10, .slice Ah10 Nh10 Ch10] := by rw [hW]; exact (Bx.new0 _ _ _)
  replace hs := hs.trans hbw
  replace hA1 := rowsJ PC.kept _ _ _ hA1 (hG.below0 (Nat.le_refl _))
  replace hB2 := rowsJ PC.kept _ _ _ hB2 (hG.below0 (Nat.le_refl _))
  replace hG7 := rowsJ PC.kept _ _ _ hG7 (hG.below0 (Nat.le_refl _))
  replace hH8 := rowsJ PC.kept _ _ _ hH8 (hG.below0 (Nat.le_refl _))
  replace Bltimes := hG.bx Bltimes notMem0
  replace Blx := hG.bx Blx notMem0
  replace Bly := hG.bx Bly notMem0
  replace Blz := hG.bx Blz notMem0
  replace h5 := h5.keep hk
  replace h6 := h6.keep hk
  replace h9 := h9.keep hk
  replace h10 := h10.keep hk
  clear hW hG hk hbw
  have hz_w14 : w13.heap.size < w14.heap.size := Blw.lt
  obtain ⟨sg12, Hsg12⟩ : ∃ s : Int, s = sgQ q := ⟨_, rfl⟩
  replace Hsg12 := Lib.hid Hsg12
  have q13 : 0 < q := HQB.out.1
  have q13_ : 0 < sg12 := by have h := s1_pos q; rw [← Hsg12.out] at h; exact h.2 q13
  have q13H := Lib.hid q13
  clear q13
  have q13d : decide (0 < sg12) = true := decide_eq_true q13_
  obtain ⟨sg15, Hsg15⟩ : ∃ s : Int, s = sgQ (q - 1) := ⟨_, rfl⟩
  replace Hsg15 := Lib.hid Hsg15
  have q16 : q ≤ 1 := HQB.out.2
  have q16_ : sg15 ≤ 0 := by have h := sq_le q 1; rw [← Hsg15.out] at h; exact h.2 q16
  have q16H := Lib.hid q16
  clear q16
  have q16d : decide (sg15 ≤ 0) = true := decide_eq_true q16_
  refine U_region (S := fun w' => w'.cell? ⟨w5.heap.size, 0, none⟩ = some (.bool sh5) ∧ w'.cell? ⟨w5.heap.size, 1, none⟩ = some (.slice ah5 nh5 ch5) ∧ w'.cell? ⟨w5.heap.size, 2, none⟩ = some (.slice Ah5 Nh5 Ch5) ∧ w'.cell? ⟨w7.heap.size, 0, none⟩ = some (.bool sh6) ∧ w'.cell? ⟨w7.heap.size, 1, none⟩ = some (.slice ah6 nh6 ch6) ∧ w'.cell? ⟨w7.heap.size, 2, none⟩ = some (.slice Ah6 Nh6 Ch6) ∧ w'.cell? ⟨w11.heap.size, 0, none⟩ = some (.bool sh9) ∧ w'.cell? ⟨w11.heap.size, 1, none⟩ = some (.slice ah9 nh9 ch9) ∧ w'.cell? ⟨w11.heap.size, 2, none⟩ = some (.slice Ah9 Nh9 Ch9) ∧ w'.cell? ⟨w13.heap.size, 0, none⟩ = some (.bool sh10) ∧ w'.cell? ⟨w13.heap.size, 1, none⟩ = some (.slice ah10 nh10 ch10) ∧ w'.cell? ⟨w13.heap.size, 2, none⟩ = some (.slice Ah10 Nh10 Ch10)) (by kernel_rfl) 41 ?_
  refine AnyU.abs ?_
  intro w15 hW
  have hb : Below w14.heap.size w14 w15 := by rw [hW]; exact bDrew _
  replace hs := bStep hs hb
  replace Bltimes := Bltimes.mono hb
  replace Blx := Blx.mono hb
  replace Bly := Bly.mono hb
  replace Blz := Blz.mono hb
  replace Blw := Blw.mono hb
  replace h5 := h5.mono hb
  replace h6 := h6.mono hb
  replace h9 := h9.mono hb
  replace h10 := h10.mono hb
  replace hA1 := rowsJ PC.kept _ _ _ hA1 hb
  replace hB2 := rowsJ PC.kept _ _ _ hB2 hb
  replace hG7 := rowsJ PC.kept _ _ _ hG7 hb
  replace hH8 := rowsJ PC.kept _ _ _ hH8 hb
  clear hb hW
  have cx_0 : w15.cell? ⟨w5.heap.size, 0, none⟩ = some (.bool sh5) := Blx.at 0 rfl
  have cx_1 : w15.cell? ⟨w5.heap.size, 1, none⟩ = some (.slice ah5 nh5 ch5) := Blx.at 1 rfl
  have cx_2 : w15.cell? ⟨w5.heap.size, 2, none⟩ = some (.slice Ah5 Nh5 Ch5) := Blx.at 2 rfl
  have cy_0 : w15.cell? ⟨w7.heap.size, 0, none⟩ = some (.bool sh6) := Bly.at 0 rfl
  have cy_1 : w15.cell? ⟨w7.heap.size, 1, none⟩ = some (.slice ah6 nh6 ch6) := Bly.at 1 rfl
  have cy_2 : w15.cell? ⟨w7.heap.size, 2, none⟩ = some (.slice Ah6 Nh6 Ch6) := Bly.at 2 rfl
  have cz_0 : w15.cell? ⟨w11.heap.size, 0, none⟩ = some (.bool sh9) := Blz.at 0 rfl
  have cz_1 : w15.cell? ⟨w11.heap.size, 1, none⟩ = some (.slice ah9 nh9 ch9) := Blz.at 1 rfl
  have cz_2 : w15.cell? ⟨w11.heap.size, 2, none⟩ = some (.slice Ah9 Nh9 Ch9) := Blz.at 2 rfl
  have cw_0 : w15.cell? ⟨w13.heap.size, 0, none⟩ = some (.bool sh10) := Blw.at 0 rfl
  have cw_1 : w15.cell? ⟨w13.heap.size, 1, none⟩ = some (.slice ah10 nh10 ch10) := Blw.at 1 rfl
  have cw_2 : w15.cell? ⟨w13.heap.size, 2, none⟩ = some (.slice Ah10 Nh10 Ch10) := Blw.at 2 rfl
  have hH := (show w15.cell? ⟨w5.heap.size, 0, none⟩ = some (.bool sh5) ∧ w15.cell? ⟨w5.heap.size, 1, none⟩ = some (.slice ah5 nh5 ch5) ∧ w15.cell? ⟨w5.heap.size, 2, none⟩ = some (.slice Ah5 Nh5 Ch5) ∧ w15.cell? ⟨w7.heap.size, 0, none⟩ = some (.bool sh6) ∧ w15.cell? ⟨w7.heap.size, 1, none⟩ = some (.slice ah6 nh6 ch6) ∧ w15.cell? ⟨w7.heap.size, 2, none⟩ = some (.slice Ah6 Nh6 Ch6) ∧ w15.cell? ⟨w11.heap.size, 0, none⟩ = some (.bool sh9) ∧ w15.cell? ⟨w11.heap.size, 1, none⟩ = some (.slice ah9 nh9 ch9) ∧ w15.cell? ⟨w11.heap.size, 2, none⟩ = some (.slice Ah9 Nh9 Ch9) ∧ w15.cell? ⟨w13.heap.size, 0, none⟩ = some (.bool sh10) ∧ w15.cell? ⟨w13.heap.size, 1, none⟩ = some (.slice ah10 nh10 ch10) ∧ w15.cell? ⟨w13.heap.size, 2, none⟩ = some (.slice Ah10 Nh10 Ch10) from ⟨cx_0, cx_1, cx_2, cy_0, cy_1, cy_2, cz_0, cz_1, cz_2, cw_0, cw_1, cw_2⟩)
  refine U_tk 0 64 ?_ ?_ hH ?_
  rotate_left
  · (intro w hSw; (try dsimp only at hSw); go_simp; try with_reducible rfl)
  simp only [LY]
  refine U_tk 1 65 ?_ ?_ hH ?_
  rotate_left
  · (intro w hSw; (try dsimp only at hSw); go_simp; try with_reducible rfl)
  simp only [LY]
  refine U_tk 2 66 ?_ ?_ hH ?_
  rotate_left
  · (intro w hSw; (try dsimp only at hSw); go_simp; try with_reducible rfl)
  simp only [LY]
  refine U_tk 3 67 ?_ ?_ hH ?_
  rotate_left
  · (intro w hSw; (try dsimp only at hSw); go_simp; try with_reducible rfl)
  simp only [LY]
  refine U_tk 4 68 ?_ ?_ hH ?_
  rotate_left
  · (intro w hSw; (try dsimp only at hSw); go_simp; try with_reducible rfl)
  simp only [LY]
  refine U_tk 5 69 ?_ ?_ hH ?_
  rotate_left
  · (intro w hSw; (try dsimp only at hSw); go_simp; try with_reducible rfl)
  simp only [LY]
  refine U_tk 6 70 ?_ ?_ hH ?_
  rotate_left
  · (intro w hSw; (try dsimp only at hSw); go_simp; try with_reducible rfl)
  simp only [LY]
  refine U_tk 7 71 ?_ ?_ hH ?_
  rotate_left
  · (intro w hSw; (try dsimp only at hSw); go_simp; try with_reducible rfl)
  simp only [LY]
  refine U_tk 8 72 ?_ ?_ hH ?_
  rotate_left
  · (intro w hSw; (try dsimp only at hSw); go_simp; try with_reducible rfl)
  simp only [LY]
  refine U_tk 9 73 ?_ ?_ hH ?_
  rotate_left
  · (intro w hSw; (try dsimp only at hSw); go_simp; try with_reducible rfl)
  simp only [LY]
  refine U_tk 10 74 ?_ ?_ hH ?_
  rotate_left
  · (intro w hSw; (try dsimp only at hSw); go_simp; try with_reducible rfl)
  simp only [LY]
  refine U_tk 11 75 ?_ ?_ hH ?_
  rotate_left
  · (intro w hSw; (try dsimp only at hSw); go_simp; try with_reducible rfl)
  simp only [LY]
  refine U_tk 12 76 ?_ ?_ hH ?_
  rotate_left
  · (intro w hSw; (try dsimp only at hSw); go_simp; try with_reducible rfl)
  simp only [LY]
  refine U_tk 13 77 ?_ ?_ hH ?_
  rotate_left
  · (intro w hSw; (try dsimp only at hSw); go_simp; try with_reducible rfl)
  simp only [LY]
  refine U_tk 14 78 ?_ ?_ hH ?_
  rotate_left
  · (intro w hSw; (try dsimp only at hSw); go_simp; try with_reducible rfl)
  simp only [LY]
  refine U_tk 15 79 ?_ ?_ hH ?_
  rotate_left
  · (intro w hSw; (try dsimp only at hSw); go_simp; try with_reducible rfl)
  simp only [LY]
  refine U_tk 16 80 ?_ ?_ hH ?_
  rotate_left
  · (intro w hSw; (try dsimp only at hSw); go_simp; try with_reducible rfl)
  simp only [LY]
  clear hH
  refine U_one (i := 17) (by kernel_rfl) rfl (fun K hK => ?_)
  go_simp
  (with_reducible refine (p_Same_eq h5 h6).mono ?_)
  rintro e w16 ⟨rfl, hb⟩
  replace hs := bStep hs hb
  replace Bltimes := Bltimes.mono hb
  replace Blx := Blx.mono hb
  replace Bly := Bly.mono hb
  replace Blz := Blz.mono hb
  replace Blw := Blw.mono hb
  replace h5 := h5.mono hb
  replace h6 := h6.mono hb
  replace h9 := h9.mono hb
  replace h10 := h10.mono hb
  replace hA1 := rowsJ PC.kept _ _ _ hA1 hb
  replace hB2 := rowsJ PC.kept _ _ _ hB2 hb
  replace hG7 := rowsJ PC.kept _ _ _ hG7 hb
  replace hH8 := rowsJ PC.kept _ _ _ hH8 hb
  replace cx_0 := cellK cx_0 hb
  replace cx_1 := cellK cx_1 hb
  replace cx_2 := cellK cx_2 hb
  replace cy_0 := cellK cy_0 hb
  replace cy_1 := cellK cy_1 hb
  replace cy_2 := cellK cy_2 hb
  replace cz_0 := cellK cz_0 hb
  replace cz_1 := cellK cz_1 hb
  replace cz_2 := cellK cz_2 hb
  replace cw_0 := cellK cw_0 hb
  replace cw_1 := cellK cw_1 hb
  replace cw_2 := cellK cw_2 hb
  clear hb
  try go_wp2_with fail
  refine hK.out _ _ ⟨cx_0, cx_1, cx_2, cy_0, cy_1, cy_2, cz_0, cz_1, cz_2, cw_0, cw_1, cw_2⟩ (fun hH => ?_)
  clear hK K
  try simp only [LY]
  refine U_tk 18 82 ?_ ?_ hH ?_
  rotate_left
  · (intro w hSw; (try dsimp only at hSw); go_simp; try with_reducible rfl)
  simp only [LY]
  refine U_tk 19 83 ?_ ?_ hH ?_
  rotate_left
  · (intro w hSw; (try dsimp only at hSw); go_simp; try with_reducible rfl)
  simp only [LY]
  refine U_tk 20 84 ?_ ?_ hH ?_
  rotate_left
  · (intro w hSw; (try dsimp only at hSw); go_simp; try with_reducible rfl)
  simp only [LY]
  refine U_tk 21 85 ?_ ?_ hH ?_
  rotate_left
  · (intro w hSw; (try dsimp only at hSw); go_simp; try with_reducible rfl)
  simp only [LY]
  clear hH
  refine U_one (i := 22) (by kernel_rfl) rfl (fun K hK => ?_)
  go_simp
  (with_reducible refine (p_Same_eq h5 h9).mono ?_)
  rintro e w17 ⟨rfl, hb⟩
  replace hs := bStep hs hb
  replace Bltimes := Bltimes.mono hb
  replace Blx := Blx.mono hb
  replace Bly := Bly.mono hb
  replace Blz := Blz.mono hb
  replace Blw := Blw.mono hb
  replace h5 := h5.mono hb
  replace h6 := h6.mono hb
  replace h9 := h9.mono hb
  replace h10 := h10.mono hb
  replace hA1 := rowsJ PC.kept _ _ _ hA1 hb
  replace hB2 := rowsJ PC.kept _ _ _ hB2 hb
  replace hG7 := rowsJ PC.kept _ _ _ hG7 hb
  replace hH8 := rowsJ PC.kept _ _ _ hH8 hb
  replace cx_0 := cellK cx_0 hb
  replace cx_1 := cellK cx_1 hb
  replace cx_2 := cellK cx_2 hb
  replace cy_0 := cellK cy_0 hb
  replace cy_1 := cellK cy_1 hb
  replace cy_2 := cellK cy_2 hb
  replace cz_0 := cellK cz_0 hb
  replace cz_1 := cellK cz_1 hb
  replace cz_2 := cellK cz_2 hb
  replace cw_0 := cellK cw_0 hb
  replace cw_1 := cellK cw_1 hb
  replace cw_2 := cellK cw_2 hb
  clear hb
  try go_wp2_with fail
  refine hK.out _ _ ⟨cx_0, cx_1, cx_2, cy_0, cy_1, cy_2, cz_0, cz_1, cz_2, cw_0, cw_1, cw_2⟩ (fun hH => ?_)
  clear hK K
  try simp only [LY]
  refine U_tk 23 87 ?_ ?_ hH ?_
  rotate_left
  · (intro w hSw; (try dsimp only at hSw); go_simp; try with_reducible rfl)
  simp only [LY]
  refine U_tk 24 88 ?_ ?_ hH ?_
  rotate_left
  · (intro w hSw; (try dsimp only at hSw); go_simp; try with_reducible rfl)
  simp only [LY]
  refine U_tk 25 89 ?_ ?_ hH ?_
  rotate_left
  · (intro w hSw; (try dsimp only at hSw); go_simp; try with_reducible rfl)
  simp only [LY]
  clear hH
  refine U_one (i := 26) (by kernel_rfl) rfl (fun K hK => ?_)
  go_simp
  (with_reducible refine (p_one _).mono ?_)
  rintro e w18 ⟨_, rfl, h11, hb⟩
  obtain ⟨sh11, ah11, nh11, ch11, Ah11, Nh11, Ch11, rfl⟩ := h11.shape
  replace hs := bStep hs hb
  replace Bltimes := Bltimes.mono hb
  replace Blx := Blx.mono hb
  replace Bly := Bly.mono hb
  replace Blz := Blz.mono hb
  replace Blw := Blw.mono hb
  replace h5 := h5.mono hb
  replace h6 := h6.mono hb
  replace h9 := h9.mono hb
  replace h10 := h10.mono hb
  replace hA1 := rowsJ PC.kept _ _ _ hA1 hb
  replace hB2 := rowsJ PC.kept _ _ _ hB2 hb
  replace hG7 := rowsJ PC.kept _ _ _ hG7 hb
  replace hH8 := rowsJ PC.kept _ _ _ hH8 hb
  replace cx_0 := cellK cx_0 hb
  replace cx_1 := cellK cx_1 hb
  replace cx_2 := cellK cx_2 hb
  replace cy_0 := cellK cy_0 hb
  replace cy_1 := cellK cy_1 hb
  replace cy_2 := cellK cy_2 hb
  replace cz_0 := cellK cz_0 hb
  replace cz_1 := cellK cz_1 hb
  replace cz_2 := cellK cz_2 hb
  replace cw_0 := cellK cw_0 hb
  replace cw_1 := cellK cw_1 hb
  replace cw_2 := cellK cw_2 hb
  clear hb
  try go_wp2_with fail
  refine hK.out _ _ ⟨cx_0, cx_1, cx_2, cy_0, cy_1, cy_2, cz_0, cz_1, cz_2, cw_0, cw_1, cw_2⟩ (fun hH => ?_)
  clear hK K
  try simp only [LY]
  clear hH
  refine U_one (i := 27) (by kernel_rfl) rfl (fun K hK => ?_)
  go_simp
  (with_reducible refine (p_Same_eq h10 h11).mono ?_)
  rintro e w19 ⟨rfl, hb⟩
  replace hs := bStep hs hb
  replace Bltimes := Bltimes.mono hb
  replace Blx := Blx.mono hb
  replace Bly := Bly.mono hb
  replace Blz := Blz.mono hb
  replace Blw := Blw.mono hb
  replace h5 := h5.mono hb
  replace h6 := h6.mono hb
  replace h9 := h9.mono hb
  replace h10 := h10.mono hb
  replace h11 := h11.mono hb
  replace hA1 := rowsJ PC.kept _ _ _ hA1 hb
  replace hB2 := rowsJ PC.kept _ _ _ hB2 hb
  replace hG7 := rowsJ PC.kept _ _ _ hG7 hb
  replace hH8 := rowsJ PC.kept _ _ _ hH8 hb
  replace cx_0 := cellK cx_0 hb
  replace cx_1 := cellK cx_1 hb
  replace cx_2 := cellK cx_2 hb
  replace cy_0 := cellK cy_0 hb
  replace cy_1 := cellK cy_1 hb
  replace cy_2 := cellK cy_2 hb
  replace cz_0 := cellK cz_0 hb
  replace cz_1 := cellK cz_1 hb
  replace cz_2 := cellK cz_2 hb
  replace cw_0 := cellK cw_0 hb
  replace cw_1 := cellK cw_1 hb
  replace cw_2 := cellK cw_2 hb
  clear hb
  try go_wp2_with fail
  refine hK.out _ _ ⟨cx_0, cx_1, cx_2, cy_0, cy_1, cy_2, cz_0, cz_1, cz_2, cw_0, cw_1, cw_2⟩ (fun hH => ?_)
  clear hK K
  try simp only [LY]
  refine U_tk 28 92 ?_ ?_ hH ?_
  rotate_left
  · (intro w hSw; (try dsimp only at hSw); go_simp; try with_reducible rfl)
  simp only [LY]
  refine U_tk 29 93 ?_ ?_ hH ?_
  rotate_left
  · (intro w hSw; (try dsimp only at hSw); go_simp; try with_reducible rfl)
  simp only [LY]
  refine U_tk 30 94 ?_ ?_ hH ?_
  rotate_left
  · (intro w hSw; (try dsimp only at hSw); go_simp; try with_reducible rfl)
  simp only [LY]
  clear hH
  refine U_one (i := 31) (by kernel_rfl) rfl (fun K hK => ?_)
  go_simp
  (with_reducible refine (pSign h5).mono ?_)
  rintro e w20 ⟨rfl, hb⟩
  replace hs := bStep hs hb
  replace Bltimes := Bltimes.mono hb
  replace Blx := Blx.mono hb
  replace Bly := Bly.mono hb
  replace Blz := Blz.mono hb
  replace Blw := Blw.mono hb
  replace h5 := h5.mono hb
  replace h6 := h6.mono hb
  replace h9 := h9.mono hb
  replace h10 := h10.mono hb
  replace h11 := h11.mono hb
  replace hA1 := rowsJ PC.kept _ _ _ hA1 hb
  replace hB2 := rowsJ PC.kept _ _ _ hB2 hb
  replace hG7 := rowsJ PC.kept _ _ _ hG7 hb
  replace hH8 := rowsJ PC.kept _ _ _ hH8 hb
  replace cx_0 := cellK cx_0 hb
  replace cx_1 := cellK cx_1 hb
  replace cx_2 := cellK cx_2 hb
  replace cy_0 := cellK cy_0 hb
  replace cy_1 := cellK cy_1 hb
  replace cy_2 := cellK cy_2 hb
  replace cz_0 := cellK cz_0 hb
  replace cz_1 := cellK cz_1 hb
  replace cz_2 := cellK cz_2 hb
  replace cw_0 := cellK cw_0 hb
  replace cw_1 := cellK cw_1 hb
  replace cw_2 := cellK cw_2 hb
  clear hb
  rw [← Hsg12.out]
  try go_wp2_with fail
  refine hK.out _ _ ⟨cx_0, cx_1, cx_2, cy_0, cy_1, cy_2, cz_0, cz_1, cz_2, cw_0, cw_1, cw_2⟩ (fun hH => ?_)
  clear hK K
  try simp only [LY]
  refine U_tk 32 96 ?_ ?_ hH ?_
  rotate_left
  · (intro w hSw; (try dsimp only at hSw); go_simp; try with_reducible rfl)
  simp only [LY]
  refine U_tk 33 97 ?_ ?_ hH ?_
  rotate_left
  · (intro w hSw; (try dsimp only at hSw); go_simp; try with_reducible rfl)
  simp only [LY]
  refine U_tk 34 98 ?_ ?_ hH ?_
  rotate_left
  · (intro w hSw; (try dsimp only at hSw); go_simp; try with_reducible rfl)
  simp only [LY]
  refine U_tk 35 99 ?_ ?_ hH ?_
  rotate_left
  · (intro w hSw; (try dsimp only at hSw); go_simp; try with_reducible rfl)
  simp only [LY]
  clear hH
  refine U_one (i := 36) (by kernel_rfl) rfl (fun K hK => ?_)
  go_simp
  (with_reducible refine (p_one _).mono ?_)
  rintro e w21 ⟨_, rfl, h14, hb⟩
  obtain ⟨sh14, ah14, nh14, ch14, Ah14, Nh14, Ch14, rfl⟩ := h14.shape
  replace hs := bStep hs hb
  replace Bltimes := Bltimes.mono hb
  replace Blx := Blx.mono hb
  replace Bly := Bly.mono hb
  replace Blz := Blz.mono hb
  replace Blw := Blw.mono hb
  replace h5 := h5.mono hb
  replace h6 := h6.mono hb
  replace h9 := h9.mono hb
  replace h10 := h10.mono hb
  replace h11 := h11.mono hb
  replace hA1 := rowsJ PC.kept _ _ _ hA1 hb
  replace hB2 := rowsJ PC.kept _ _ _ hB2 hb
  replace hG7 := rowsJ PC.kept _ _ _ hG7 hb
  replace hH8 := rowsJ PC.kept _ _ _ hH8 hb
  replace cx_0 := cellK cx_0 hb
  replace cx_1 := cellK cx_1 hb
  replace cx_2 := cellK cx_2 hb
  replace cy_0 := cellK cy_0 hb
  replace cy_1 := cellK cy_1 hb
  replace cy_2 := cellK cy_2 hb
  replace cz_0 := cellK cz_0 hb
  replace cz_1 := cellK cz_1 hb
  replace cz_2 := cellK cz_2 hb
  replace cw_0 := cellK cw_0 hb
  replace cw_1 := cellK cw_1 hb
  replace cw_2 := cellK cw_2 hb
  clear hb
  try go_wp2_with fail
  refine hK.out _ _ ⟨cx_0, cx_1, cx_2, cy_0, cy_1, cy_2, cz_0, cz_1, cz_2, cw_0, cw_1, cw_2⟩ (fun hH => ?_)
  clear hK K
  try simp only [LY]
  clear hH
  refine U_one (i := 37) (by kernel_rfl) rfl (fun K hK => ?_)
  go_simp
  (with_reducible refine (pCmp h5 h14 (SzQ.fit sq) (SzQ.fit szQ_one)).mono ?_)
  rintro e w22 ⟨rfl, hb⟩
  replace hs := bStep hs hb
  replace Bltimes := Bltimes.mono hb
  replace Blx := Blx.mono hb
  replace Bly := Bly.mono hb
  replace Blz := Blz.mono hb
  replace Blw := Blw.mono hb
  replace h5 := h5.mono hb
  replace h6 := h6.mono hb
  replace h9 := h9.mono hb
  replace h10 := h10.mono hb
  replace h11 := h11.mono hb
  replace h14 := h14.mono hb
  replace hA1 := rowsJ PC.kept _ _ _ hA1 hb
  replace hB2 := rowsJ PC.kept _ _ _ hB2 hb
  replace hG7 := rowsJ PC.kept _ _ _ hG7 hb
  replace hH8 := rowsJ PC.kept _ _ _ hH8 hb
  replace cx_0 := cellK cx_0 hb
  replace cx_1 := cellK cx_1 hb
  replace cx_2 := cellK cx_2 hb
  replace cy_0 := cellK cy_0 hb
  replace cy_1 := cellK cy_1 hb
  replace cy_2 := cellK cy_2 hb
  replace cz_0 := cellK cz_0 hb
  replace cz_1 := cellK cz_1 hb
  replace cz_2 := cellK cz_2 hb
  replace cw_0 := cellK cw_0 hb
  replace cw_1 := cellK cw_1 hb
  replace cw_2 := cellK cw_2 hb
  clear hb
  rw [← Hsg15.out]
  try go_wp2_with fail
  refine hK.out _ _ ⟨cx_0, cx_1, cx_2, cy_0, cy_1, cy_2, cz_0, cz_1, cz_2, cw_0, cw_1, cw_2⟩ (fun hH => ?_)
  clear hK K
  try simp only [LY]
  refine U_tk 38 102 ?_ ?_ hH ?_
  rotate_left
  · (intro w hSw; (try dsimp only at hSw); go_simp; try with_reducible rfl)
  simp only [LY]
  refine U_tk 39 103 ?_ ?_ hH ?_
  rotate_left
  · (intro w hSw; (try dsimp only at hSw); go_simp; try with_reducible rfl)
  simp only [LY]
  refine U_tk 40 6 ?_ ?_ hH ?_
  rotate_left
  · (intro w hSw; (try dsimp only at hSw); go_simp; try with_reducible rfl)
  simp only [LY]
  clear hH
  refine U_endN (by kernel_rfl) ?_
  clear cx_0 cx_1 cx_2 cy_0 cy_1 cy_2 cz_0 cz_1 cz_2 cw_0 cw_1 cw_2
  go_wp2
  go_ret
  exact ⟨rfl, hs⟩

theorem l8_AllowSame (v vm : Value) (l m : List Int) (tt : Int) (w : World) (hl : RowsI 1 I8C w v l) (hm : RowsI 1 I8C w vm m) (hl8 : ∀ x ∈ l, -128 ≤ x ∧ x ≤ 127) (hm8 : ∀ x ∈ m, -128 ≤ x ∧ x ≤ 127) (t0 : 0 ≤ tt ∧ tt ≤ 255) :
    Calls Try.prog 4 #[v, vm, .int .u8 tt] w (RetV w (.bool true)) := by
  obtain ⟨A, hA⟩ : ∃ A, valQ l 5 = A := ⟨_, rfl⟩
  obtain ⟨Bv, hB⟩ : ∃ B, valQ m 5 = B := ⟨_, rfl⟩
  have la := (valQ_len l 5).1
  have lb := (valQ_len m 5).1
  have za : ∀ i, i < A.length → SzQ 1 (nthQ A i) := fun i hi => hA ▸ valQ_sz hl8 (hA.symm ▸ hi)
  have zb : ∀ i, i < Bv.length → SzQ 1 (nthQ Bv i) := fun i hi => hB ▸ valQ_sz hm8 (hB.symm ▸ hi)
  rw [hA] at la
  rw [hB] at lb
  by_cases h0 : A.length = 0
  · exact l8_Same_nil1 v vm l m tt w hl hm hl8 hm8 A Bv hA hB h0
  · by_cases h1 : Bv.length = 0
    · exact l8_Same_nil2 v vm l m tt w hl hm hl8 hm8 A Bv hA hB h0 h1
    · obtain ⟨t, ht⟩ : ∃ t : Rat, ((tt : Int) : Rat) = t := ⟨_, rfl⟩
      have st : SzQ 1 t := ht ▸ szQ_int (by omega)
      have tn : 0 ≤ t := by rw [← ht]; exact_mod_cast t0.1
      have ga := mapG_sz st za
      have gb := mapG_sz st zb
      refine l8_Same_ok v vm l m tt w hl hm hl8 hm8 A Bv hA hB (by omega) la (by omega) lb t0.1 t0.2 t (alA A Bv) ht st (alA_sz (by omega)) za zb _ _ rfl rfl (by simp; omega) (by simp; omega) (by simp; omega) (by simp; omega)
        (app_sz za zb (by decide)) (app_sz zb za (by decide)) (app_sz ga gb (by decide)) (app_sz za za (by decide)) rfl (alA_swap A Bv) (alA_rising tn A Bv) (alA_self A) (alA_bd A Bv)
end Go.Proofs.Ytmnipggjjcmjkaa
