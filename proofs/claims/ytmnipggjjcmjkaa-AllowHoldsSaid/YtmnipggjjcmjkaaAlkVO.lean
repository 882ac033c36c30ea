/-
  Law 08's values.
-/
import Derived.Test.YtmnipggjjcmjkaaSame0O
import Derived.Test.YtmnipggjjcmjkaaPkAlBO
import Derived.Test.YtmnipggjjcmjkaaPkOpsO
set_option linter.unusedSimpArgs false
set_option linter.unusedVariables false
set_option maxRecDepth 100000
set_option maxHeartbeats 4000000
namespace Go.Proofs.Ytmnipggjjcmjkaa
open Go.RowKit Dg
attribute [local go_sem ↓] Go.wp_at_zero Go.wp_at_succ
def I8C (_ : World) (cs : List Value) (x : Int) : Prop := cs = [.int .i8 x]
theorem I8C.kept : Kept I8C := fun _ _ _ _ h _ => h
theorem rowI8_at {w : World} {v : Value} {L : List Int} {i : Nat} (h : RowsI 1 I8C w v L) (hi : i < L.length) : ∃ b o c, v = .slice (some ⟨b, o, none⟩) L.length c ∧ w.cell? ⟨b, o + i, none⟩ = some (.int .i8 (nthI L i)) ∧ b < w.heap.size := by
 obtain ⟨b', o', c', cs, hv, _, hat, rfl⟩ := h.get (nthI_some hi)
 have := hat 0 _ rfl
 rw [Nat.mul_one, Nat.add_zero] at this
 exact ⟨_, _, _, hv, this, cell_lt this⟩
theorem p_Int_8 {n : Int} {f : Rat} (w : World) (h : (n : Rat) = f) (h1 : -1000 ≤ n) (h2 : n ≤ 1000) : Calls Try.prog 10 #[.int .i64 n] w (RetP w f) := by
 subst h
 exact p_Int_calls n w (by omega) (by omega)
def valK (l : List Int) (n k : Nat) : List Rat := ((l.take n).take k).map fun x => ((x : Int) : Rat)
theorem valK_all (l : List Int) (n : Nat) : valK l n l.length = valQ l n := by unfold valK valQ; rw [List.take_of_length_le (by rw [List.length_take]; omega)]
theorem valK_len (l : List Int) (n k : Nat) : (valK l n k).length ≤ n := by unfold valK; rw [List.length_map, List.length_take, List.length_take]; omega
theorem valK_yes {l : List Int} {n k : Nat} (h : k < l.length) (hn : k < n) {z : Int} (hz : nthI l k = z) : valK l n (k + 1) = valK l n k ++ [((z : Int) : Rat)] := by
 unfold valK
 have e : k < (l.take n).length := by rw [List.length_take]; omega
 rw [List.take_succ_eq_append_getElem e, List.map_append, List.getElem_take]
 have e2 : l[k] = nthI l k := by
  have := nthI_some h
  rw [List.getElem?_eq_getElem h] at this
  injection this
 rw [e2, hz]; rfl
theorem valK_no {l : List Int} {n k : Nat} (hn : ¬ k < n) : valK l n (k + 1) = valK l n k := by
 unfold valK
 have e : (l.take n).length ≤ n := by rw [List.length_take]; omega
 rw [List.take_of_length_le (l := l.take n) (i := k + 1) (by omega), List.take_of_length_le (l := l.take n) (i := k) (by omega)]
theorem valQ_len (l : List Int) (n : Nat) : (valQ l n).length ≤ n ∧ (0 < n → 0 < l.length → 0 < (valQ l n).length) ∧ (l.length = 0 → (valQ l n).length = 0) := by unfold valQ; rw [List.length_map, List.length_take]; omega
theorem valQ_sz {l : List Int} (hl : ∀ x ∈ l, -128 ≤ x ∧ x ≤ 127) {n i : Nat} (h : i < (valQ l n).length) : SzQ 1 (nthQ (valQ l n) i) := by
 have e := nthQ_some h
 have m := List.mem_of_getElem? e
 unfold valQ at m
 obtain ⟨x, hx, hq⟩ := List.mem_map.1 m
 show SzQ 1 (nthQ (valQ l n) i)
 unfold valQ
 rw [← hq]
 have := hl x (List.mem_of_mem_take hx)
 exact szQ_int (by omega)
theorem l8_values {v : Value} {l : List Int} {n : Nat} (w : World) (hl : RowsI 1 I8C w v l) (hl8 : ∀ x ∈ l, -128 ≤ x ∧ x ≤ 127) (hn : n ≤ 20) : Calls Try.prog 18 #[v, .int .i64 n] w (Ret1 (fun w v => Rows 3 26 PC w v (valQ l n)) w) := by
 obtain ⟨ao, cap, rfl, hc1, hc2, hc3⟩ := hl.slice
 have hs := Below.refl w.heap.size w
 have HLI := Lib.hid hl
 have HL8 := Lib.hid hl8
 clear hl hl8
 obtain ⟨i0, hi, hz0, hz1, hz2⟩ := info_parts alP_info
 go_enter Try.func18, Try.ntmps18
 go_wp2
 go_loopw [5, 10] (fun s5 s10 wq => ∃ k : Nat, k ≤ l.length ∧ s10 = .int .i64 k ∧ Below w.heap.size w wq ∧ OwnR w.heap.size 26 3 PC wq s5 (valK l n k)) (fun s5 s10 _ => l.length - (intOf s10).toNat)
 case atStart => exact ⟨0, Nat.zero_le _, rfl, hs, OwnR.nil _ _ _ _ _⟩
 case round =>
  clear hs
  obtain ⟨k, k_le, rfl, hs, Oou⟩ := hrel
  have lnv := valK_len l n k
  by_cases q1 : k < l.length
  ·have q1d : ((k : Int) < (l.length : Int)) = True := eq_true (by omega)
   obtain ⟨bbe2, ooe2, cce2, hve2, Ee2, le2⟩ := rowI8_at (HLI.out.mono I8C.kept hs) (show k < l.length by omega)
   obtain ⟨rfl, rfl⟩ := sliceE hve2
   obtain ⟨ze2, Hze2⟩ : ∃ z : Int, z = nthI l k := ⟨_, rfl⟩
   rw [← Hze2] at Ee2
   obtain ⟨bze21, bze22⟩ : -128 ≤ ze2 ∧ ze2 ≤ 127 := by rw [Hze2]; exact HL8.out _ (List.mem_of_getElem? (nthI_some (show k < l.length by omega)))
   replace Hze2 := Lib.hid Hze2.symm
   by_cases q3 : k < n
   ·have q3d : ((k : Int) < (n : Int)) = True := eq_true (by omega)
    go_wp2_with fail
    clear le2 Ee2
    with_reducible refine (p_Int_8 (n := ze2) _ rfl (by omega) (by omega)).mono ?_
    rintro e w21 ⟨_, rfl, h4, hb⟩
    obtain ⟨sh4, ah4, nh4, ch4, Ah4, Nh4, Ch4, rfl⟩ := h4.shape
    replace hs := bStep hs hb
    replace Oou := Oou.mono PC.kept hb
    clear hb
    go_wp2_with (at_builtin; refine wpList.stop ?_)
    refine ⟨?_⟩
    refine wpList.abs ?_
    intro w22 hW
    have hG : Gr [] w21 w22 := by rw [hW]; exact (Gr.refl _ _).alloc
    have hbw : Below w.heap.size w21 w22 := hG.below0 hs.size
    have hk : KeepD w21 w22 := hG.keep True.intro
    have sz_w22 : w.heap.size ≤ w21.heap.size := hs.size
    have B0 : Bx w22 (w21.heap.size) 26 #[.bool sh4, .slice ah4 nh4 ch4, .slice Ah4 Nh4 Ch4] := by rw [hW]; exact (Bx.new0 _ _ _)
    replace hs := hs.trans hbw
    replace h4 := h4.keep hk
    replace Oou := Oou.mono PC.kept (hG.below0 (Nat.le_refl _))
    clear hW hG hk hbw
    have hz_w22 : w21.heap.size < w22.heap.size := B0.lt
    obtain ⟨css, ho1, ho2, ho3, hown0⟩ := Oou
    refine wpList_append_lies _ rfl _ _ _ rfl w.heap.size 26 i0 _ 3 56 Try.underlying41 hi hz0 hz1 hz2 rfl (by omega) _ _ css.flatten rfl hown0 ⟨w21.heap.size, 0, none⟩ 1 1 [.bool sh4, .slice ah4 nh4 ch4, .slice Ah4 Nh4 Ch4] rfl rfl B0.news ?_ (by omega) ?_ ?_ ?_ _ rfl ?_
    ·intro u hu; simp only [List.mem_cons, List.mem_nil_iff, or_false] at hu; rcases hu with rfl | rfl | rfl <;> rfl
    ·unfold maxLen; (try simp only [List.length_append, List.length_cons, List.length_nil]); omega
    ·(try simp only [List.length_append, List.length_cons, List.length_nil]); omega
    ·exact hs.size
    intro gou capou w23 hown1 hgrow hat hlt_
    have hk_ := KeepD.owns hown0 hgrow (by decide)
    have ho := owns_onlyT hown0 hgrow
    replace hs := hs.grown hgrow hs.size (fun k hk => (hown0.lt k hk).1)
    replace Oou := OwnR.push' PC.kept ho1 ho2 ho3 (x := ((ze2 : Int) : Rat)) rfl ⟨_, _, _, rfl, h4⟩ (by simp) hown1 hk_
    replace h4 := h4.keep hk_
    clear hk_ ho ho1 ho2 ho3 hown0 hown1 hgrow hat hlt_ B0
    go_wp2
    go_roundw
    case rel => exact ⟨k + 1, by omega, by go_num, hs, by rw [valK_yes (show k < l.length by omega) (show k < n by omega) Hze2.out]; exact Oou⟩
    all_goals first | (simp [intOf]; done) | (simp [intOf]; omega)
   ·have q3d : ((k : Int) < (n : Int)) = False := eq_false (by omega)
    go_wp2
    go_roundw
    case rel => exact ⟨k + 1, by omega, by go_num, hs, by rw [valK_no (show ¬ k < n by omega)]; exact Oou⟩
    all_goals first | (simp [intOf]; done) | (simp [intOf]; omega)
  ·have q1d : ((k : Int) < (l.length : Int)) = False := eq_false (by omega)
   obtain rfl : k = l.length := by omega
   go_wp2
   have hR := Oou.rows
   rw [valK_all] at hR
   go_ret
   exact ⟨_, rfl, hR, hs⟩
end Go.Proofs.Ytmnipggjjcmjkaa
