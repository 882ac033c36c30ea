/-
  slices.SortFunc at fractions, by the shelf's contract: what the comparing function owes it (it draws no less: Drawn), what the row holds behind it.
-/
import Derived.Test.YtlmemilmhdhgbaaGreatDrawnO
import Derived.Test.YtlmemilmhdhgbaaGreatSort
import Derived.Test.YtlmemilmhdhgbaaGreatPkAlBO
import Derived.Test.YtlmemilmhdhgbaaGreatOrd0O
import Derived.Test.YtlmemilmhdhgbaaGreatPkOpsO
import Derived.Shelf.SlSortCmp.WholeK
import Derived.Shelf.SlicesE.Clone
set_option linter.unusedSimpArgs false
set_option linter.unusedVariables false
namespace Go.Proofs.YtlmemilmhdhgbaaGreat
open Go.RowKit Dg Go.Sort Go.Shelf
section
variable {w0 w w' : World}
def QE (w0 : World) : Type := { p : (Value × Value × Value) × Rat // PV w0 (.agg #[p.1.1, p.1.2.1, p.1.2.2]) p.2 ∧ SzQ 100000 p.2 }
def encQ (x : QE w0) : List Value := [x.1.1.1, x.1.1.2.1, x.1.1.2.2]
def qOf (x : QE w0) : Rat := x.1.2
instance : Inhabited (QE w0) := ⟨⟨((.bool false, .slice none 0 0, .slice none 0 0), 0), PV.zero _, szQ_zero.mono (by decide)⟩⟩
theorem encQ_len (x : QE w0) : (encQ x).length = 3 := rfl
theorem encQ_pc (x : QE w0) : PC w0 (encQ x) (qOf x) := ⟨_, _, _, rfl, x.2.1⟩
theorem encQ_one (x : QE w0) : ∀ v ∈ encQ x, v.oneCell' = true := (PC.one (encQ_pc x)).2
def cfQ (x y : QE w0) : Int := sgQ (qOf x - qOf y)
theorem ltQ (x y : QE w0) : ltOf cfQ x y = decide (qOf x < qOf y) := by
  unfold ltOf cfQ
  exact decide_eq_decide.2 (sq_lt _ _)
theorem swoQ : SWO (ltOf (cfQ (w0 := w0))) where
  irrefl x := by rw [ltQ]; exact decide_eq_false Rat.lt_irrefl
  trans x y z h1 h2 := by
    rw [ltQ] at *
    simp only [decide_eq_true_eq] at *
    grind
  ntrans x y z h1 h2 := by
    rw [ltQ] at *
    simp only [decide_eq_false_iff_not] at *
    grind
theorem sortW_block {α : Type} [Inhabited α] (enc : α → List Value) (k : Nat) (w : World) (blk off m : Nat) (dk : Array α) (os : Array Obj) {j : Nat} (hj : j < w.heap.size) (hn : j ≠ blk) : (sortWorldK enc k w blk off m dk os).heap[j]? = w.heap[j]? := by
  unfold sortWorldK grow putRowK putRow mapBlock Sort.ahead
  simp only
  rw [Array.getElem?_append_left (by simpa using hj), Array.getElem?_modify, if_neg (by omega)]
theorem sortW_below {α : Type} [Inhabited α] (enc : α → List Value) (k : Nat) (w : World) (blk off m : Nat) (dk : Array α) (os : Array Obj) {B : Nat} (hB : B ≤ blk) (hb : blk < w.heap.size) : Below B w (sortWorldK enc k w blk off m dk os) :=
  ⟨rfl, rfl, rfl, by rw [show (sortWorldK enc k w blk off m dk os).heap.size = w.heap.size + os.size from by unfold sortWorldK grow; simp [size_putRowK, Sort.ahead]]; omega, fun j hj => sortW_block enc k w blk off m dk os (by omega) (by omega)⟩
theorem sortW_keep {α : Type} [Inhabited α] (enc : α → List Value) (k : Nat) (w : World) (blk off m : Nat) (dk : Array α) (os : Array Obj) (ht : TyB 34 w blk) : KeepD w (sortWorldK enc k w blk off m dk os) :=
  ⟨(sortW_below enc k w blk off m dk os (Nat.zero_le _) ht.lt).size, fun j t hj hd => sortW_block enc k w blk off m dk os hj.lt (fun e => by
    subst e
    rcases hd with rfl | rfl
    · exact TyB.ne ht hj (by decide) rfl
    · exact TyB.ne ht hj (by decide) rfl)⟩
theorem grow_of (hb : Below w.heap.size w w') (hd : w.drawn ≤ w'.drawn) : ∃ q os, w' = grow (w.drewN q) os := by
  refine ⟨w'.drawn - w.drawn, w'.heap.extract w.heap.size w'.heap.size, ?_⟩
  obtain ⟨h1, t1, d1, o1, p1⟩ := w
  obtain ⟨h2, t2, d2, o2, p2⟩ := w'
  obtain ⟨e1, e2, e3, e4, e5⟩ := hb
  simp only at e1 e2 e3 e4 e5 hd
  subst e1 e2 e3
  unfold grow World.drewN
  simp only [World.mk.injEq, true_and, and_true]
  refine ⟨?_, by omega⟩
  refine Array.ext_getElem? fun i => ?_
  by_cases hi : i < h1.size
  · rw [Array.getElem?_append_left hi, e5 i hi]
  · rw [Array.getElem?_append_right (by omega), Array.getElem?_extract]
    by_cases hi2 : i < h2.size
    · rw [if_pos (by omega), show h1.size + (i - h1.size) = i from by omega]
    · rw [if_neg (by omega), Array.getElem?_eq_none (by omega)]
theorem cmpQ {blk off size : Nat} (ht : TyB 34 w0 blk) : CmpLays Tryz.prog 37 #[] (encQ (w0 := w0)) 3 cfQ blk off size w0 := by
  intro m os dk _ x y
  have hk := sortW_keep (encQ (w0 := w0)) 3 w0 blk off m dk os ht
  have hc := calls_drawn (pCmp (x.2.1.keep hk) (y.2.1.keep hk) (SzQ.fit x.2.2) (SzQ.fit y.2.2)) (fun e w' h => ⟨_, h.1⟩)
  refine hc.mono ?_
  rintro e w' ⟨⟨rfl, hb⟩, hd⟩
  exact ⟨rfl, grow_of hb hd⟩
theorem flatQ {xs : List (QE w0)} {t : Nat} (h : t < xs.length * 3) : (xs.map encQ).flatten[t]? = some ((flatK encQ 3 xs.toArray)[t]!) := by
  have hi : t / 3 < xs.length := by omega
  have h1 : (xs.map encQ)[t / 3]? = some (encQ (xs[t / 3]'hi)) := by rw [List.getElem?_map, List.getElem?_eq_getElem hi]; rfl
  have h2 := flat_get (size := 3) (xs.map encQ) (fun cs hcs => by obtain ⟨y, _, rfl⟩ := List.mem_map.1 hcs; rfl) (t / 3) (t % 3) _ h1 (by omega)
  rw [show t / 3 * 3 + t % 3 = t from by omega] at h2
  rw [h2, get_flatK _ _ _ _ (by simpa using h)]
  have e : xs.toArray[t / 3]! = xs[t / 3]'hi := by simp [hi]
  rw [e]
  have h3 : t % 3 < (encQ (xs[t / 3]'hi)).length := by rw [encQ_len]; omega
  rw [List.getElem?_eq_getElem h3, getElem!_pos (encQ (xs[t / 3]'hi)) (t % 3) h3]
theorem chooseQ {α : Type} [Inhabited α] {Q : Nat → α → Prop} {n : Nat} (h : ∀ i, i < n → ∃ y, Q i y) : ∃ f : Nat → α, ∀ i, i < n → Q i (f i) := by
  refine ⟨fun i => if hi : i < n then Classical.choose (h i hi) else default, fun i hi => ?_⟩
  show Q i (if hi : i < n then Classical.choose (h i hi) else default)
  rw [dif_pos hi]
  exact Classical.choose_spec (h i hi)
theorem ownQ {base : Nat} {v : Value} {L : List Rat} (h : OwnR base 34 3 PC w v L) (h1 : 1 ≤ L.length) (hz : ∀ i, i < L.length → SzQ 100000 (nthQ L i)) :
    ∃ (g cap : Nat) (xs : List (QE w)), v = .slice (some ⟨g, 0, none⟩) xs.toArray.size cap ∧ base ≤ g ∧ TyB 34 w g ∧ xs.map qOf = L ∧ HoldsK encQ 3 w g 0 xs.toArray ∧ xs.toArray.size ≤ cap ∧ cap ≤ maxLen ∧ ∃ cur, w.heap[g]? = some (.cells cur 34 (0, 0)) ∧ cur.size = cap * 3 := by
  obtain ⟨css, c1, c2, c3, hown⟩ := h
  have hall : ∀ i, i < L.length → ∃ y : QE w, css[i]? = some (encQ y) ∧ qOf y = nthQ L i := by
    intro i hi
    have hc : css[i]? = some (css[i]'(by omega)) := List.getElem?_eq_getElem (by omega)
    obtain ⟨a, b, c, e, hp⟩ := c3 i _ _ hc (nthQ_some hi)
    exact ⟨⟨((a, b, c), nthQ L i), hp, hz i hi⟩, by rw [hc, e]; rfl, rfl⟩
  obtain ⟨f, hf⟩ := chooseQ hall
  have hxs : ((List.range L.length).map f).map qOf = L := by
    refine List.ext_getElem? fun i => ?_
    rw [List.getElem?_map, List.getElem?_map]
    by_cases hi : i < L.length
    · rw [List.getElem?_range hi, nthQ_some hi]
      show some (qOf (f i)) = _
      rw [(hf i hi).2]
    · rw [List.getElem?_eq_none (by simpa using hi), List.getElem?_eq_none (by omega)]; rfl
  have hcs : ((List.range L.length).map f).map encQ = css := by
    refine List.ext_getElem? fun i => ?_
    rw [List.getElem?_map, List.getElem?_map]
    by_cases hi : i < L.length
    · rw [List.getElem?_range hi, (hf i hi).1]; rfl
    · rw [List.getElem?_eq_none (by simpa using hi), List.getElem?_eq_none (by omega)]; rfl
  obtain ⟨o1, o2⟩ := hown
  rcases o2 with ⟨_, e0⟩ | ⟨g, cap, cur, hv, hb, hg, hn, hc, hs, htk⟩
  · omega
  · refine ⟨g, cap, (List.range L.length).map f, by rw [hv]; simp, hb, ⟨_, _, hg⟩, hxs, ?_, by simpa using hn, hc, cur, hg, hs⟩
    intro j hj
    have hj' : j < L.length * 3 := by simpa using hj
    have e1 := flatQ (xs := (List.range L.length).map f) (t := j) (by simpa using hj')
    rw [hcs, ← htk, List.getElem?_take_of_lt hj', Array.getElem?_toList] at e1
    rw [Nat.zero_add]
    constructor
    · unfold World.cell?
      rw [hg]
      exact e1
    · unfold World.frozen?
      rw [hg]
      simp
theorem srt_unique {S T : List Rat} (hp : S.Perm T) (hs : S.Pairwise (· ≤ ·)) (ht : T.Pairwise (· ≤ ·)) : S = T := by
  have hl := hp.length_eq
  refine List.ext_getElem? fun i => ?_
  by_cases hi : i < S.length
  · rw [nthQ_some hi, nthQ_some (show i < T.length by omega)]
    congr 1
    refine eq_of_le fun v => ?_
    rw [ord_iff v S hs i hi, ord_iff v T ht i (by omega)]
    unfold atM
    rw [hp.countP_eq]
  · rw [List.getElem?_eq_none (by omega), List.getElem?_eq_none (by omega)]
theorem ownQ_put {base g cap : Nat} {xs : List (QE w)} {d : Array (QE w)} {m : Nat} {os : Array Obj} {cur : Array Value} (hb : base ≤ g) (hg : w.heap[g]? = some (.cells cur 34 (0, 0))) (hcap : xs.toArray.size ≤ cap) (hmax : cap ≤ maxLen) (hcur : cur.size = cap * 3)
    (hsz : d.size = xs.toArray.size) :
    OwnR base 34 3 PC (sortWorldK encQ 3 w g 0 m d os) (.slice (some ⟨g, 0, none⟩) xs.toArray.size cap) (d.toList.map qOf) := by
  have hsz' : d.toList.length = xs.length := by simpa using hsz
  have hk := sortW_keep (encQ (w0 := w)) 3 w g 0 m d os ⟨_, _, hg⟩
  refine ⟨d.toList.map encQ, by simp, fun cs hcs => by obtain ⟨y, _, rfl⟩ := List.mem_map.1 hcs; rfl, fun i cs x hc hx => ?_, ?_⟩
  · rw [List.getElem?_map] at hx
    rw [List.getElem?_map] at hc
    cases hy : d.toList[i]? with
    | none => rw [hy] at hc; cases hc
    | some y =>
      rw [hy] at hc hx
      cases hc
      cases hx
      exact PC.kept _ _ _ _ (encQ_pc y) hk
  · have hl : (d.toList.map qOf).length = xs.length := by rw [List.length_map, hsz']
    have hfl : (d.toList.map encQ).flatten.length = xs.length * 3 := by
      rw [flat_length (size := 3) _ (fun cs hcs => by obtain ⟨y, _, rfl⟩ := List.mem_map.1 hcs; rfl), List.length_map, hsz']
    refine ⟨by rw [hl, hfl], Or.inr ⟨g, cap, putCells id 0 (flatK encQ 3 d) cur, by rw [hl]; simp, hb, ?_, by rw [hl]; simpa using hcap, hmax, by simp [putCells, hcur], ?_⟩⟩
    · have hlt := lt_of_block hg
      unfold sortWorldK grow putRowK putRow mapBlock Sort.ahead
      simp only
      rw [Array.getElem?_append_left (by simpa using hlt), Array.getElem?_modify, if_pos rfl, hg]
      rfl
    · rw [hl]
      refine List.ext_getElem? fun t => ?_
      by_cases ht : t < xs.length * 3
      · have hd3 : t < d.toList.length * 3 := by rw [hsz']; exact ht
        rw [List.getElem?_take_of_lt ht, Array.getElem?_toList]
        have e := flatQ (xs := d.toList) hd3
        rw [Array.toArray_toList] at e
        rw [e]
        unfold putCells
        have hc : t < cur.size := by
          have : xs.length ≤ cap := by simpa using hcap
          rw [hcur]
          omega
        rw [Array.getElem?_mapIdx, Array.getElem?_eq_getElem hc]
        have hz : t < (flatK encQ 3 d).size := by rw [size_flatK]; simpa using hd3
        simp only [Option.map_some, Nat.zero_le, Nat.zero_add, true_and, Nat.sub_zero, hz, if_true, id]
      · rw [List.getElem?_eq_none (by rw [List.length_take]; omega), List.getElem?_eq_none (by rw [hfl]; omega)]
theorem srtQ_of {xs : List (QE w)} {d : Array (QE w)} (hperm : PermIn 0 xs.toArray.size xs.toArray d) (hsort : SortedIn (ltOf cfQ) 0 xs.toArray.size d) : d.toList.map qOf = srtQ (xs.map qOf) := by
  obtain ⟨hsz, _, hp⟩ := hperm
  have e1 : d.extract 0 xs.toArray.size = d := by rw [← hsz]; simp
  have e2 : xs.toArray.extract 0 xs.toArray.size = xs.toArray := by simp
  rw [e1, e2] at hp
  refine srt_unique ((hp.map qOf).trans (by simpa using (srtQ_perm (xs.map qOf)).symm)) ?_ (srtQ_sorted _)
  rw [List.pairwise_map, List.pairwise_iff_getElem]
  intro i j hi hj hij
  have := hsort i j (Nat.zero_le _) hij (by rw [← hsz]; simpa using hj)
  rw [ltQ] at this
  rw [getElem!_pos d j (by simpa using hj), getElem!_pos d i (by simpa using hi)] at this
  have h3 := of_decide_eq_false this
  rw [Array.getElem_toList, Array.getElem_toList]
  exact Rat.not_lt.1 h3
theorem sl_SortQ {base : Nat} {v : Value} {L : List Rat} (w : World) (h : OwnR base 34 3 PC w v L) (h1 : 1 ≤ L.length) (h2 : L.length ≤ 1000) (hz : ∀ i, i < L.length → SzQ 100000 (nthQ L i)) :
    Calls Tryz.prog 61 #[v, .func (.func 37) #[] #[]] w (fun e w' => e = .returned (.tuple #[]) ∧ OwnR base 34 3 PC w' v (srtQ L) ∧ Below base w w') := by
  obtain ⟨g, cap, xs, rfl, hb, ht, hq, hH, hcap, hmax, cur, hg, hcur⟩ := ownQ h h1 hz
  have hlen : xs.length = L.length := by rw [← hq]; simp
  have hcon := AnyQ.slices_SortFunc Tryz.sortL 3 Tryz.isAgg34 Tryz.sizeOf34 (encQ (w0 := w)) encQ_len encQ_one cfQ swoQ 37 #[] g 0 cap xs.toArray w (enters_of Tryz.func37 (by kernel_rfl) rfl) (cmpQ ht) hH ht.lt (by simp; omega)
  change Calls Tryz.prog 61 _ _ _ at hcon
  refine hcon.mono ?_
  rintro e w' ⟨rfl, d, n, os, hp, hs, rfl⟩
  refine ⟨rfl, ?_, sortW_below _ _ _ _ _ _ _ _ hb ht.lt⟩
  have := ownQ_put (m := n) (os := os) hb hg hcap hmax hcur hp.1
  rw [srtQ_of hp hs, hq] at this
  exact this
end
end Go.Proofs.YtlmemilmhdhgbaaGreat
