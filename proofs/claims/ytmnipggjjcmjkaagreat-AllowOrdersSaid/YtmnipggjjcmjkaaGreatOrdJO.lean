/-
  Law 08: AllowOrders, all ways.
-/
import Derived.Test.YtmnipggjjcmjkaaGreatOrdIO
set_option linter.unusedSimpArgs false
set_option linter.unusedVariables false
namespace Go.Proofs.YtmnipggjjcmjkaaGreat
open Go.RowKit Dg

theorem rkEr_80 {n : Int} {u c : Rat} (h1 : 1 ≤ n) (h2 : n ≤ 64) (hu : 0 ≤ u ∧ u ≤ 1) (hc : 0 ≤ c ∧ c ≤ 1) (h : ¬ rkEr n u c = 0) : rkEr n u c = 80 := by
  have hw : ¬ rkWrong n u c := fun e => by
    rcases e with e | e | e | e
    · omega
    · omega
    · exact e hu
    · exact e hc
  unfold rkEr at *
  rw [if_neg hw] at *
  unfold rkE at *
  split at h
  · rw [if_pos (by assumption)]
  · exact absurd rfl h
theorem LimOk.like {A L : List Rat} {u c : Rat} {r : Nat} (g1 : 1 ≤ A.length) (g2 : A.length ≤ 64) (hE : rkEr A.length u c = 0) (hr : rkV A.length u c = (r : Int)) (hl : L.length = A.length) (hz : ∀ i, i < L.length → SzQ 100000 (nthQ L i)) : LimOk L u c (ordQ L (r - 1)) :=
  ⟨by omega, by omega, by rw [hl]; exact hE, ⟨r, by rw [hl]; exact hr, rfl⟩, hz⟩
theorem nthQ_mem {A : List Rat} {i : Nat} (h : i < A.length) : nthQ A i ∈ A := List.mem_of_getElem? (nthQ_some h)
theorem sz_all {A : List Rat} {K : Nat} (h : ∀ x ∈ A, SzQ K x) (i : Nat) (hi : i < A.length) : SzQ K (nthQ A i) := h _ (nthQ_mem hi)
theorem sz_mem {A : List Rat} {K : Nat} (h : ∀ i, i < A.length → SzQ K (nthQ A i)) : ∀ x ∈ A, SzQ K x := fun x hx => by
  obtain ⟨i, hi, e⟩ := List.getElem_of_mem hx
  have h3 := nthQ_some hi
  rw [List.getElem?_eq_getElem hi] at h3
  injection h3 with h3
  rw [← e, h3]
  exact h i hi
set_option maxRecDepth 100000 in
theorem l8_AllowOrders (v : Value) (l : List Int) (sh cf bb tm aa mo : Int) (w : World) (hl : RowsI 1 I8C w v l) (hl8 : ∀ x ∈ l, -128 ≤ x ∧ x ≤ 127) (b1 : 0 ≤ sh ∧ sh ≤ 255) (b2 : 0 ≤ cf ∧ cf ≤ 255) (b3 : -128 ≤ bb ∧ bb ≤ 127) (b4 : 0 ≤ tm ∧ tm ≤ 255) (b5 : 0 ≤ aa ∧ aa ≤ 255) (b6 : 0 ≤ mo ∧ mo ≤ 255) :
    Calls Tryz.prog 8 #[v, .int .u8 sh, .int .u8 cf, .int .i8 bb, .int .u8 tm, .int .u8 aa, .int .u8 mo] w (RetV w (.bool true)) := by
  obtain ⟨A, hA⟩ : ∃ A, valQ l 8 = A := ⟨_, rfl⟩
  have la := (valQ_len l 8).1
  rw [hA] at la
  by_cases h0 : A.length = 0
  · exact l8_Orders_nil v l sh cf bb tm aa mo w hl hl8 b1 b2 b3 b4 b5 b6 A hA h0
  · have g1 : 1 ≤ A.length := by omega
    have hz1 : ∀ i, i < A.length → SzQ 1 (nthQ A i) := fun i hi => hA ▸ valQ_sz hl8 (hA.symm ▸ hi)
    obtain ⟨u, hu⟩ : ∃ q : Rat, ((sh % 9 : Int) : Rat) / ((8 : Int) : Rat) = q := ⟨_, rfl⟩
    obtain ⟨c, hc⟩ : ∃ q : Rat, ((cf % 9 : Int) : Rat) / ((8 : Int) : Rat) = q := ⟨_, rfl⟩
    have su : SzQ 1 u := hu ▸ szQ_frac (by omega) (by decide) (by decide)
    have sc : SzQ 1 c := hc ▸ szQ_frac (by omega) (by decide) (by decide)
    have cu := div_bd hu (by omega) (by omega) (by decide)
    have cc := div_bd hc (by omega) (by omega) (by decide)
    obtain ⟨f1, f2⟩ := varQ_facts g1
    have sm : SzQ (20 * 1 + 101) (meanQ A) := mean_sz hz1 g1 (by omega)
    have sl := sqK_len A (meanQ A) (Nat.le_refl A.length)
    have sv : SzQ 7000 (varQ A) := (mean_sz (K := 300) (fun i hi => (sqK_sz hz1 sm (show i < A.length by omega)).mono (by omega)) (by omega) (by omega)).mono (by omega)
    by_cases hE : rkEr A.length u c = 0
    · have hz : ∀ i, i < A.length → SzQ 100000 (nthQ A i) := fun i hi => (hz1 i hi).mono (by omega)
      obtain ⟨r, ⟨hr, hrl⟩, hLA⟩ := LimOk.any g1 (by omega) hE hz
      obtain ⟨t, ht⟩ : ∃ q : Rat, ((1 + tm : Int) : Rat) = q := ⟨_, rfl⟩
      obtain ⟨y, hy⟩ : ∃ q : Rat, ((bb : Int) : Rat) = q := ⟨_, rfl⟩
      obtain ⟨n, hn⟩ : ∃ q : Rat, ((mo : Int) : Rat) = q := ⟨_, rfl⟩
      have st : SzQ 1 t := ht ▸ szQ_int (by omega)
      have sy : SzQ 1 y := hy ▸ szQ_int (by omega)
      have sn : SzQ 1 n := hn ▸ szQ_int (by omega)
      have tp : 0 < t := by rw [← ht]; exact_mod_cast (show (0 : Int) < 1 + tm by omega)
      have np : 0 ≤ n := by rw [← hn]; exact_mod_cast b6.1
      obtain ⟨ii, hi2⟩ : ∃ ii : Nat, aa % (A.length : Int) = (ii : Int) := ⟨(aa % (A.length : Int)).toNat, by have := Int.emod_nonneg aa (show (A.length : Int) ≠ 0 by omega); omega⟩
      have hii : ii < A.length := by have := Int.emod_lt_of_pos aa (show (0 : Int) < A.length by omega); omega
      have hm1 := sz_mem hz1
      have zB : ∀ i, i < A.reverse.length → SzQ 100000 (nthQ A.reverse i) := sz_all fun x hx => (hm1 x (List.mem_reverse.1 hx)).mono (by omega)
      have zM : ∀ x ∈ mvK A t y A.length, SzQ 4 x := fun x hx => by
        rw [mvK_all] at hx
        obtain ⟨z, hz, rfl⟩ := List.mem_map.1 hx
        exact SzQ.mono (((hm1 z hz).mul st).add sy) (by omega)
      have zG : ∀ x ∈ A.set ii (nthQ A ii + n), SzQ 3 x := fun x hx => by
        rcases List.mem_or_eq_of_mem_set hx with m | rfl
        · exact (hm1 x m).mono (by omega)
        · exact SzQ.mono ((hz1 ii hii).add sn) (by omega)
      have lB := LimOk.like (L := A.reverse) g1 (by omega) hE hr (by simp) zB
      have lM := LimOk.like (L := mvK A t y A.length) g1 (by omega) hE hr (mvK_len A t y (Nat.le_refl _)) (sz_all fun x hx => (zM x hx).mono (by omega))
      have lG := LimOk.like (L := A.set ii (nthQ A ii + n)) g1 (by omega) hE hr (by simp) (sz_all fun x hx => (zG x hx).mono (by omega))
      rw [← ordQ_perm (List.reverse_perm A).symm hrl] at lB
      have hMl := mvK_len A t y (Nat.le_refl A.length)
      have hGl : (A.set ii (nthQ A ii + n)).length = A.length := by simp
      have eM : ordQ (mvK A t y A.length) (r - 1) = ordQ A (r - 1) * t + y := by rw [mvK_all]; exact ordQ_map hrl tp
      have eG := ordQ_set (y := nthQ A ii + n) hrl hii (by grind)
      have mA := ordQ_mem hrl
      have mM := ordQ_mem (show r - 1 < (mvK A t y A.length).length by omega)
      have mG := ordQ_mem (show r - 1 < (A.set ii (nthQ A ii + n)).length by omega)
      have an := anK_all mA
      generalize ordQ A (r - 1) = x at *
      generalize ordQ (mvK A t y A.length) (r - 1) = z at *
      generalize ordQ (A.set ii (nthQ A ii + n)) (r - 1) = g at *
      have sA : SzQ 10 x := SzQ.mono (hm1 _ mA) (by omega)
      have sM : SzQ 10 z := SzQ.mono (zM _ mM) (by omega)
      have sG : SzQ 10 g := SzQ.mono (zG _ mG) (by omega)
      have sm2 : SzQ 1000 (meanQ A) := SzQ.mono sm (by omega)
      have ev := eqK_var g1
      have nv := Rat.not_lt.2 f1
      generalize hm : meanQ A = m at sm2
      generalize hva : varQ A = va at sv ev nv
      exact l8_Orders_ok v l sh cf bb tm aa mo w hl hl8 b1 b2 b3 b4 b5 b6 A hA g1 la hz1 u c hu hc su sc m va hm hva sm2 sv nv ev t y n x z g ii hii hi2 ht hy hn st sy sn sA sM sG hz hLA lB lM lG eM eG an
    · have sm2 : SzQ 1000 (meanQ A) := SzQ.mono sm (by omega)
      have ev := eqK_var g1
      have nv := Rat.not_lt.2 f1
      have h80 := rkEr_80 (show (1 : Int) ≤ A.length by omega) (by omega) cu cc hE
      generalize hE2 : rkEr A.length u c = E at hE h80
      generalize hm : meanQ A = m at sm2
      generalize hva : varQ A = va at sv ev nv
      exact l8_Orders_bad v l sh cf bb tm aa mo w hl hl8 b1 b2 b3 b4 b5 b6 A hA g1 la hz1 u c hu hc su sc m va hm hva sm2 sv nv ev E hE2 hE h80
end Go.Proofs.YtmnipggjjcmjkaaGreat
