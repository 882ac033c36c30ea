/-
  Limit, Quantile, Mean, Outlier of both sides, all ways.
-/
import Derived.Test.YtlmemilmhdhgbaaGreatPkQntBO
import Derived.Test.YtlmemilmhdhgbaaGreatQnt4O
set_option linter.unusedSimpArgs false
set_option linter.unusedVariables false
namespace Go.Proofs.YtlmemilmhdhgbaaGreat
open Go Go.Proofs
def lenOk (L : List Rat) : Prop := 1 ≤ L.length ∧ L.length ≤ 64
instance (L : List Rat) : Decidable (lenOk L) := by unfold lenOk; infer_instance
def lmE (L : List Rat) (u c : Rat) : Int := if lenOk L then rkEr L.length u c else 4
def lmV (L : List Rat) (u c : Rat) : Rat := if lenOk L ∧ rkEr L.length u c = 0 then ordQ L ((rkV L.length u c).toNat - 1) else 0
def qnE (L : List Rat) (u : Rat) : Int := if lenOk L then (if 0 ≤ u ∧ u ≤ 1 then 0 else 1) else 4
def qnV (L : List Rat) (u : Rat) : Rat := if lenOk L ∧ (0 ≤ u ∧ u ≤ 1) then qtQ L u else 0
def mnE (L : List Rat) : Int := if lenOk L then 0 else 4
def mnV (L : List Rat) : Rat := if lenOk L then meanQ L else 0
def vrV (L : List Rat) : Rat := if lenOk L then varQ L else 0
def otE (L : List Rat) (mo : Rat) : Int := if lenOk L then (if mo < 0 then 1 else 0) else 4
def otV (L : List Rat) (mo : Rat) : Int := if lenOk L ∧ ¬ mo < 0 then outV L mo else 0
theorem szQ_mem {L : List Rat} {K : Nat} (hz : ∀ i, i < L.length → SzQ K (nthQ L i)) {x : Rat} (hx : x ∈ L) : SzQ K x := by
 obtain ⟨i, hi, rfl⟩ := List.mem_iff_getElem.1 hx
 have e : nthQ L i = L[i] := by have h := nthQ_some hi; rw [List.getElem?_eq_getElem hi] at h; exact (Option.some.inj h).symm
 exact e ▸ hz i hi
theorem lmV_sz {L : List Rat} {u c : Rat} (hz : ∀ i, i < L.length → SzQ 1 (nthQ L i)) : SzQ 1 (lmV L u c) := by
 unfold lmV
 by_cases h : lenOk L ∧ rkEr L.length u c = 0
 ·rw [if_pos h]
  obtain ⟨r, ⟨hr, hr2⟩, -⟩ := LimOk.any h.1.1 h.1.2 h.2 (fun i hi => (hz i hi).mono (by decide))
  rw [hr, Int.toNat_natCast]
  exact szQ_mem hz (ordQ_mem hr2)
 ·rw [if_neg h]; exact szQ_zero.mono (by decide)
theorem qnV_sz {L : List Rat} {u : Rat} (hz : ∀ i, i < L.length → SzQ 1 (nthQ L i)) : SzQ 1 (qnV L u) := by
 unfold qnV
 by_cases h : lenOk L ∧ (0 ≤ u ∧ u ≤ 1)
 ·rw [if_pos h]
  obtain ⟨q0, q1⟩ := qt_same h.1.1 h.2.2
  have hb := (bqF_bd L (u * ((L.length : Int) : Rat)) L.length).2
  rw [← q1]
  exact hz _ (by omega)
 ·rw [if_neg h]; exact szQ_zero.mono (by decide)
theorem mnV_sz {L : List Rat} (hz : ∀ i, i < L.length → SzQ 1 (nthQ L i)) (h : L.length ≤ 20 ∨ 64 < L.length) : SzQ 121 (mnV L) := by
 unfold mnV
 by_cases g : lenOk L
 ·rw [if_pos g]; have := g.2; exact (mean_sz hz g.1 (by omega)).mono (by decide)
 ·rw [if_neg g]; exact szQ_zero.mono (by decide)
theorem vrV_sz {L : List Rat} (hz : ∀ i, i < L.length → SzQ 1 (nthQ L i)) (h : L.length ≤ 20 ∨ 64 < L.length) : SzQ 7000 (vrV L) := by
 unfold vrV
 by_cases g : lenOk L
 ·rw [if_pos g]
  have g2 := g.2
  have g20 : L.length ≤ 20 := by omega
  have sm := mean_sz hz g.1 g20
  have lS : (sqK L (meanQ L) L.length).length = L.length := sqK_len L _ (Nat.le_refl _)
  have sS : ∀ i, i < (sqK L (meanQ L) L.length).length → SzQ 300 (nthQ (sqK L (meanQ L) L.length) i) := fun i hi => (sqK_sz hz sm (by omega)).mono (by omega)
  have h_ := mean_sz sS (by rw [lS]; exact g.1) (by rw [lS]; exact g20)
  exact h_.mono (by decide)
 ·rw [if_neg g]; exact szQ_zero.mono (by decide)
theorem al_LimitA {v vu vc : Value} {L : List Rat} {u c : Rat} (w : World) (hl : Rows 3 34 PC w v L) (hu : PV w vu u) (su : SzQ 1 u) (hc : PV w vc c) (sc : SzQ 1 c) (hz : ∀ i, i < L.length → SzQ 1 (nthQ L i)) (h : L.length ≤ 20 ∨ 64 < L.length) {q : Rat} {e : Int} (hq : lmV L u c = q) (he : lmE L u c = e) : Calls Tryz.prog 7 #[v, vu, vc] w (RetPE w q e) := by
 subst hq he
 have hz' : ∀ i, i < L.length → SzQ 100000 (nthQ L i) := fun i hi => (hz i hi).mono (by decide)
 by_cases g : lenOk L
 ·have g2 := g.2
  by_cases hE : rkEr L.length u c = 0
  ·obtain ⟨r, ⟨hr, -⟩, -⟩ := LimOk.any g.1 g.2 hE hz'
   unfold lmV lmE
   rw [if_pos ⟨g, hE⟩, if_pos g, hE, hr, Int.toNat_natCast]
   exact al_Limit_ok w hl hu su hc sc g.1 (by omega) hE hr hz' rfl
  ·unfold lmV lmE
   rw [if_neg (fun e => hE e.2), if_pos g]
   exact al_Limit_rank w hl hu su hc sc g.1 g.2 rfl hE
 ·unfold lmV lmE
  rw [if_neg (fun e => g e.1), if_neg g]
  exact al_Limit_few w hl hu su hc sc g
theorem al_QuantileA {v vu : Value} {L : List Rat} {u : Rat} (w : World) (hl : Rows 3 34 PC w v L) (hu : PV w vu u) (su : SzQ 1 u) (hz : ∀ i, i < L.length → SzQ 1 (nthQ L i)) (h : L.length ≤ 20 ∨ 64 < L.length) {q : Rat} {e : Int} (hq : qnV L u = q) (he : qnE L u = e) : Calls Tryz.prog 11 #[v, vu] w (RetPE w q e) := by
 subst hq he
 by_cases g : lenOk L
 ·have g2 := g.2
  by_cases hE : 0 ≤ u ∧ u ≤ 1
  ·unfold qnV qnE
   rw [if_pos ⟨g, hE⟩, if_pos g, if_pos hE]
   exact al_Quantile_ok w hl hu su g.1 (by omega) hE hz rfl
  ·unfold qnV qnE
   rw [if_neg (fun e => hE e.2), if_pos g, if_neg hE]
   exact al_Quantile_arg w hl hu su g.1 g.2 hE
 ·unfold qnV qnE
  rw [if_neg (fun e => g e.1), if_neg g]
  exact al_Quantile_few w hl hu su g
theorem al_MeanA {v : Value} {L : List Rat} (w : World) (hl : Rows 3 34 PC w v L) (hz : ∀ i, i < L.length → SzQ 1 (nthQ L i)) (h : L.length ≤ 20 ∨ 64 < L.length) {m va : Rat} {e : Int} (hm : mnV L = m) (hv : vrV L = va) (he : mnE L = e) : Calls Tryz.prog 13 #[v] w (Ret3 (fun w v => PV w v m) (fun w v => PV w v va) (fun _ v => v = .int .i64 e) w) := by
 subst hm hv he
 unfold mnV vrV mnE
 by_cases g : lenOk L
 ·have g2 := g.2
  rw [if_pos g, if_pos g, if_pos g]
  exact al_Mean w hl g.1 (by omega) hz rfl rfl
 ·rw [if_neg g, if_neg g, if_neg g]
  exact al_Mean_bad w hl g
theorem al_OutlierA {v vu : Value} {L : List Rat} {mo : Rat} (w : World) (hl : Rows 3 34 PC w v L) (hu : PV w vu mo) (su : SzQ 1 mo) (hz : ∀ i, i < L.length → SzQ 1 (nthQ L i)) (h : L.length ≤ 20 ∨ 64 < L.length) {r e : Int} (hr : otV L mo = r) (he : otE L mo = e) : Calls Tryz.prog 15 #[v, vu] w (RetV w (.tuple #[.int .i64 r, .int .i64 e])) := by
 subst hr he
 unfold otV otE
 by_cases g : lenOk L
 ·have g2 := g.2
  by_cases hc : mo < 0
  ·rw [if_neg (fun e => e.2 hc), if_pos g, if_pos hc]
   exact al_Outlier_arg w hl hu su g.1 g2 hc
  ·rw [if_pos ⟨g, hc⟩, if_pos g, if_neg hc]
   exact al_Outlier_ok w hl hu su g.1 (by omega) hc hz rfl
 ·rw [if_neg (fun e => g e.1), if_neg g]
  exact al_Outlier_few w hl hu su g
theorem r8_LimitA {v vu vc : Value} {L : List Rat} {u c : Rat} (w : World) (hl : Rows 3 41 RC w v L) (hu : RV w vu u) (su : SzQ 1 u) (hc : RV w vc c) (sc : SzQ 1 c) (hz : ∀ i, i < L.length → SzQ 1 (nthQ L i)) (h : L.length ≤ 20 ∨ 64 < L.length) {q : Rat} {e : Int} (hq : lmV L u c = q) (he : lmE L u c = e) : Calls Tryz.prog 9 #[v, vu, vc] w (RetQE w q e) := by
 subst hq he
 have hz' : ∀ i, i < L.length → SzQ 100000 (nthQ L i) := fun i hi => (hz i hi).mono (by decide)
 by_cases g : lenOk L
 ·have g2 := g.2
  by_cases hE : rkEr L.length u c = 0
  ·obtain ⟨r, ⟨hr, -⟩, -⟩ := LimOk.any g.1 g.2 hE hz'
   unfold lmV lmE
   rw [if_pos ⟨g, hE⟩, if_pos g, hE, hr, Int.toNat_natCast]
   exact r8_Limit_ok w hl hu su hc sc g.1 (by omega) hE hr hz' rfl
  ·unfold lmV lmE
   rw [if_neg (fun e => hE e.2), if_pos g]
   exact r8_Limit_rank w hl hu su hc sc g.1 g.2 rfl hE
 ·unfold lmV lmE
  rw [if_neg (fun e => g e.1), if_neg g]
  exact r8_Limit_few w hl hu su hc sc g
theorem r8_QuantileA {v vu : Value} {L : List Rat} {u : Rat} (w : World) (hl : Rows 3 41 RC w v L) (hu : RV w vu u) (su : SzQ 1 u) (hz : ∀ i, i < L.length → SzQ 1 (nthQ L i)) (h : L.length ≤ 20 ∨ 64 < L.length) {q : Rat} {e : Int} (hq : qnV L u = q) (he : qnE L u = e) : Calls Tryz.prog 12 #[v, vu] w (RetQE w q e) := by
 subst hq he
 by_cases g : lenOk L
 ·have g2 := g.2
  by_cases hE : 0 ≤ u ∧ u ≤ 1
  ·unfold qnV qnE
   rw [if_pos ⟨g, hE⟩, if_pos g, if_pos hE]
   exact r8_Quantile_ok w hl hu su g.1 (by omega) hE hz rfl
  ·unfold qnV qnE
   rw [if_neg (fun e => hE e.2), if_pos g, if_neg hE]
   exact r8_Quantile_arg w hl hu su g.1 g.2 hE
 ·unfold qnV qnE
  rw [if_neg (fun e => g e.1), if_neg g]
  exact r8_Quantile_few w hl hu su g
theorem r8_MeanA {v : Value} {L : List Rat} (w : World) (hl : Rows 3 41 RC w v L) (hz : ∀ i, i < L.length → SzQ 1 (nthQ L i)) (h : L.length ≤ 20 ∨ 64 < L.length) {m va : Rat} {e : Int} (hm : mnV L = m) (hv : vrV L = va) (he : mnE L = e) : Calls Tryz.prog 14 #[v] w (Ret3 (fun w v => RV w v m) (fun w v => RV w v va) (fun _ v => v = .int .i64 e) w) := by
 subst hm hv he
 unfold mnV vrV mnE
 by_cases g : lenOk L
 ·have g2 := g.2
  rw [if_pos g, if_pos g, if_pos g]
  exact r8_Mean_ok w hl g.1 (by omega) hz rfl rfl
 ·rw [if_neg g, if_neg g, if_neg g]
  exact r8_Mean_bad w hl g
theorem r8_OutlierA {v vu : Value} {L : List Rat} {mo : Rat} (w : World) (hl : Rows 3 41 RC w v L) (hu : RV w vu mo) (su : SzQ 1 mo) (hz : ∀ i, i < L.length → SzQ 1 (nthQ L i)) (h : L.length ≤ 20 ∨ 64 < L.length) {r e : Int} (hr : otV L mo = r) (he : otE L mo = e) : Calls Tryz.prog 16 #[v, vu] w (RetV w (.tuple #[.int .i64 r, .int .i64 e])) := by
 subst hr he
 unfold otV otE
 by_cases g : lenOk L
 ·have g2 := g.2
  by_cases hc : mo < 0
  ·rw [if_neg (fun e => e.2 hc), if_pos g, if_pos hc]
   exact r8_Outlier_arg w hl hu su g.1 (by omega) hz hc
  ·rw [if_pos ⟨g, hc⟩, if_pos g, if_neg hc]
   exact r8_Outlier_ok w hl hu su g.1 (by omega) hz hc rfl
 ·rw [if_neg (fun e => g e.1), if_neg g]
  exact r8_Outlier_few w hl hu su g
end Go.Proofs.YtlmemilmhdhgbaaGreat
