/-
  The union's sums: what is gathered in a slab, how long, how large: plain.
-/
import Derived.Test.YtbnomdlojmgigaaGreatPlIF
import Derived.Test.YtbnomdlojmgigaaGreatPlHF
import Derived.Test.YtbnomdlojmgigaaGreatPkB15F
import Derived.Test.YtbnomdlojmgigaaGreatPkB2F
import Derived.Deep.AppendLies
import Derived.OrdersIn
import Derived.TacticsIn
import Derived.RangeFuncNested
import Derived.RangeFuncCalls
import Derived.RangeFuncLeaves
import Derived.RangeFuncRecord
set_option linter.unusedSimpArgs false
set_option linter.unusedVariables false
namespace Go.Proofs.YtbnomdlojmgigaaGreat
def hrK (P : List (List Edg)) (x : Rat) (i : Nat) : List (Rat × Rat) := (P.take i).flatMap fun p => spQ p x
theorem hrK_succ {P : List (List Edg)} {x : Rat} {i : Nat} (h : i < P.length) : hrK P x (i + 1) = hrK P x i ++ spQ (lsZ P i) x := by
  unfold hrK
  rw [List.take_add_one, ls_some h, List.flatMap_append]
  simp
theorem hrK_all (P : List (List Edg)) (x : Rat) : hrK P x P.length = P.flatMap fun p => spQ p x := by unfold hrK; rw [List.take_length]
theorem prQ_len : ∀ l : List Rat, (prQ l).length ≤ l.length
  | [] => Nat.le_refl _
  | [_] => Nat.zero_le _
  | _ :: _ :: r => by
    have := prQ_len r
    show (prQ r).length + 1 ≤ r.length + 1 + 1
    omega
theorem spQ_len (E : List Edg) (x : Rat) : (spQ E x).length ≤ E.length := by
  unfold spQ
  have h1 := prQ_len (srtQ (ysQ E x))
  have h2 := srt_len (ysQ E x)
  have h3 := ys_len E x
  omega
theorem flat_len (x : Rat) : ∀ P : List (List Edg), (P.flatMap fun p => spQ p x).length ≤ totE P
  | [] => Nat.le_refl _
  | p :: r => by
    rw [List.flatMap_cons, List.length_append, totE_cons]
    have := spQ_len p x
    have := flat_len x r
    omega
theorem totE_take : ∀ (P : List (List Edg)) (i : Nat), totE (P.take i) ≤ totE P
  | [], i => by rw [List.take_nil]; exact Nat.le_refl _
  | p :: r, 0 => Nat.zero_le _
  | p :: r, i + 1 => by
    rw [List.take_succ_cons, totE_cons, totE_cons]
    have := totE_take r i
    omega
theorem hrK_len (P : List (List Edg)) (x : Rat) (i : Nat) : (hrK P x i).length ≤ totE P := Nat.le_trans (flat_len x _) (totE_take P i)
theorem totE_nth {P : List (List Edg)} {i : Nat} (h : i < P.length) : (lsZ P i).length ≤ totE P := by
  have := totE_take P (i + 1)
  rw [List.take_add_one, ls_some h] at this
  unfold totE at this ⊢
  rw [List.map_append, List.sum_append] at this
  simp at this
  omega
theorem prQ_mem {Q : Rat → Prop} : ∀ {l : List Rat}, (∀ y ∈ l, Q y) → ∀ s ∈ prQ l, Q s.1 ∧ Q s.2
  | [], _, s, hs => by cases hs
  | [_], _, s, hs => by cases hs
  | a :: b :: r, h, s, hs => by
    rcases List.mem_cons.1 hs with rfl | hs
    · exact ⟨h a (by simp), h b (by simp)⟩
    · exact prQ_mem (l := r) (fun y hy => h y (by simp [hy])) s hs
theorem spQ_sz {E : List Edg} {x : Rat} {K : Nat} (hE : ∀ e ∈ E, EdOk e) (sx : SzQ K x) : ∀ s ∈ spQ E x, SzQ (K + 8) s.1 ∧ SzQ (K + 8) s.2 := prQ_mem (srt_mem (ys_sz hE sx))
theorem hr_sz {P : List (List Edg)} {x : Rat} {K : Nat} (hE : ∀ p ∈ P, ∀ e ∈ p, EdOk e) (sx : SzQ K x) (i : Nat) : ∀ s ∈ hrK P x i, SzQ (K + 8) s.1 ∧ SzQ (K + 8) s.2 := fun s hs => by
  obtain ⟨p, hp, hs⟩ := List.mem_flatMap.1 hs
  exact spQ_sz (hE p (List.mem_of_mem_take hp)) sx s hs
theorem nthS_mem {L : List (Rat × Rat)} {Q : Rat × Rat → Prop} (h : ∀ s ∈ L, Q s) {i : Nat} (hi : i < L.length) : Q (nthS L i) := h _ (List.mem_of_getElem? (nthS_some hi))
theorem lnQ_sz {L : List (Rat × Rat)} {K N : Nat} (h : ∀ s ∈ L, SzQ K s.1 ∧ SzQ K s.2) (hn : L.length ≤ N) : SzQ (N * (2 * K + 3) + 1) (lnQ (srtS L)) := by
  have hl : (srtS L).length = L.length := (srtS_perm L).length_eq
  have h1 : ∀ i, i < (srtS L).length → SzQ K (nthS (srtS L) i).1 ∧ SzQ K (nthS (srtS L) i).2 := fun i hi => nthS_mem (Q := fun s => SzQ K s.1 ∧ SzQ K s.2) (fun s hs => h s ((srtS_perm L).mem_iff.1 hs)) hi
  have h2 := (lnS_sz h1 (srtS L).length (Nat.le_refl _)).1
  rw [lnS_all] at h2
  exact h2.mono (by have : (srtS L).length * (2 * K + 3) ≤ N * (2 * K + 3) := Nat.mul_le_mul_right _ (by omega); omega)
theorem cp_ne : ∀ {l : List Rat}, 0 < l.length → 0 < (cpQ l).length
  | [_], _ => Nat.zero_lt_one
  | a :: b :: r, _ => by
    have := cp_ne (l := b :: r) (Nat.succ_pos _)
    show 0 < (if a = b then cpQ (b :: r) else a :: cpQ (b :: r)).length
    split
    · exact this
    · exact Nat.succ_pos _
theorem slb_ne {P : List (List Edg)} (h1 : 0 < P.length) (h2 : ∀ p ∈ P, 0 < p.length) : 0 < (slbQ P).length := by
  match P, h1 with
  | p :: r, _ =>
    have hp := h2 p (by simp)
    match p, hp with
    | e :: es, _ =>
      show 0 < ((e :: es).flatMap (fun e => seL e r) ++ slbQ r).length
      rw [List.flatMap_cons]
      show 0 < ((((e.1.1 : Rat) :: _ ) ++ _) ++ _).length
      simp
theorem xs_ne {P : List (List Edg)} (h1 : 0 < P.length) (h2 : ∀ p ∈ P, 0 < p.length) : 0 < (xsQ P).length := cp_ne (by rw [srt_len]; exact slb_ne h1 h2)
theorem xs_len {P : List (List Edg)} (hT : totE P ≤ 24) : (xsQ P).length ≤ 624 := by
  have h1 := cp_len (srtQ (slbQ P))
  have h2 := srt_len (slbQ P)
  have h3 := sb1_le P hT P.length
  rw [sb1_all] at h3
  unfold xsQ
  omega
theorem cp_mem {Q : Rat → Prop} : ∀ {l : List Rat}, (∀ y ∈ l, Q y) → ∀ y ∈ cpQ l, Q y
  | [], _, y, hy => by cases hy
  | [a], h, y, hy => h y hy
  | a :: b :: r, h, y, hy => by
    have ih := cp_mem (l := b :: r) (fun y hy => h y (List.mem_cons_of_mem _ hy))
    have hy : y ∈ (if a = b then cpQ (b :: r) else a :: cpQ (b :: r)) := hy
    split at hy
    · exact ih y hy
    · rcases List.mem_cons.1 hy with rfl | hy
      · exact h y (by simp)
      · exact ih y hy
theorem xs_sz {P : List (List Edg)} (hE : ∀ p ∈ P, ∀ e ∈ p, EdOk e) : ∀ y ∈ xsQ P, SzQ 7 y := cp_mem (srt_mem (slb_szs hE))
theorem half_sz : SzQ 4 ((1 / 2 : Rat)) := by rw [show (1 / 2 : Rat) = ((1 : Int) : Rat) / ((2 : Int) : Rat) from rfl]; exact (szD (show Wn 9223372036854775807 1 from ⟨by decide, by decide⟩) (show Wn 9223372036854775807 2 from ⟨by decide, by decide⟩) (by decide)).mono (by decide)
theorem mid_sz {a b : Rat} (ha : SzQ 7 a) (hb : SzQ 7 b) : SzQ 24 ((a + b) * (1 / 2)) := (SzQ.mul (SzQ.add ha hb) half_sz).mono (by decide)
theorem slab_sz {P : List (List Edg)} {a b : Rat} (hE : ∀ p ∈ P, ∀ e ∈ p, EdOk e) (hT : totE P ≤ 24) (ha : SzQ 7 a) (hb : SzQ 7 b) : SzQ 2000 (slabQ P a b) := by
  unfold slabQ
  exact (SzQ.mul (SzQ.sub hb ha) (lnQ_sz (N := 24) (by rw [← hrK_all]; exact hr_sz hE (mid_sz ha hb) _) (Nat.le_trans (flat_len _ P) hT))).mono (by decide)
theorem sumK_sz {P : List (List Edg)} {X : List Rat} (hE : ∀ p ∈ P, ∀ e ∈ p, EdOk e) (hT : totE P ≤ 24) (hX : ∀ y ∈ X, SzQ 7 y) : ∀ k, k + 1 ≤ X.length → SzQ (k * 2001 + 1) (sumK P X k)
  | 0, _ => szQ_zero.mono (by omega)
  | k + 1, hk => by
    have ih := sumK_sz hE hT hX k (by omega)
    have h1 := slab_sz hE hT (nth_mem hX (show k < X.length by omega)) (nth_mem hX (show k + 1 < X.length by omega))
    exact (SzQ.add ih h1).mono (by omega)
theorem slT_succ {l : List (List Pt)} {k : Nat} (h : k < l.length) : (l.take (k + 1)).map slE = (l.take k).map slE ++ [slE (l.getD k [])] := by
  rw [List.take_add_one, List.map_append]
  rw [show l[k]? = some (l.getD k []) from by rw [List.getD_eq_getElem?_getD, List.getElem?_eq_getElem h]; rfl]
  rfl
end Go.Proofs.YtbnomdlojmgigaaGreat
namespace Go.Proofs.YtbnomdlojmgigaaGreat
open Go Go.RowKit Dg
theorem rows_flatG {α : Type} {size : Nat} {T : TypeId} {R : World → List Value → α → Prop} (hz : 0 < size) (hone : ∀ (w : World) (cs : List Value) (x : α), R w cs x → ∀ u ∈ cs, u.oneCell' = true) {w : World} {b o n c : Nat} {l : List α} (h : Rows size T R w (.slice (some ⟨b, o, none⟩) n c) l) :
    ∃ css : List (List Value), css.length = l.length ∧ (∀ cs ∈ css, cs.length = size) ∧ (∀ (i : Nat) (cs : List Value) (x : α), css[i]? = some cs → l[i]? = some x → R w cs x) ∧
    (∀ u ∈ css.flatten, u.oneCell' = true) ∧ ∀ j u, css.flatten[j]? = some u → w.cell? ((⟨b, o, none⟩ : Addr).add j) = some u := by
  have hall : ∀ i, i < l.length → ∃ cs : List Value, cs.length = size ∧ CellsAt w b (o + i * size) cs ∧ ∀ x, l[i]? = some x → R w cs x := fun i hi => by
    obtain ⟨b', o', c', cs, hv, hl, hat, hc⟩ := h.get (List.getElem?_eq_getElem hi)
    obtain ⟨e, rfl⟩ := sliceE hv
    injection e with e
    injection e with e1 e2
    subst e1 e2
    exact ⟨cs, hl, hat, fun x hx => by rw [List.getElem?_eq_getElem hi] at hx; cases hx; exact hc⟩
  obtain ⟨f, hf⟩ := choose_lt' hall
  have hg : ∀ (i : Nat) (cs : List Value), ((List.range l.length).map f)[i]? = some cs → i < l.length ∧ cs = f i := fun i cs hc => by
    rw [List.getElem?_map] at hc
    by_cases hi : i < l.length
    · rw [List.getElem?_range hi] at hc
      simp only [Option.map_some, Option.some.injEq] at hc
      exact ⟨hi, hc.symm⟩
    · rw [List.getElem?_eq_none (by simpa using hi)] at hc
      cases hc
  have h3 : ∀ cs ∈ (List.range l.length).map f, cs.length = size := fun cs hcs => by
    obtain ⟨i, hi, rfl⟩ := List.mem_map.1 hcs
    exact (hf i (List.mem_range.1 hi)).1
  refine ⟨(List.range l.length).map f, by simp, h3, fun i cs x hc hx => ?_, fun u hu => ?_, fun j u hu => ?_⟩
  · obtain ⟨hi, rfl⟩ := hg i cs hc
    exact (hf i hi).2.2 x hx
  · obtain ⟨cs, hcs, hu⟩ := List.mem_flatten.1 hu
    obtain ⟨i, hi, rfl⟩ := List.mem_map.1 hcs
    have hi := List.mem_range.1 hi
    exact hone _ _ _ ((hf i hi).2.2 _ (List.getElem?_eq_getElem hi)) u hu
  · have hj : j < l.length * size := by
      have h1 := (List.getElem?_eq_some_iff.1 hu).1
      rw [flat_length _ h3] at h1
      simpa using h1
    have hm := Nat.mod_lt j hz
    have hd := Nat.div_add_mod j size
    rw [Nat.mul_comm] at hd
    have hi : j / size < l.length := Nat.div_lt_of_lt_mul (by rw [Nat.mul_comm]; exact hj)
    have e := flat_get _ h3 (j / size) (j % size) (f (j / size)) (by rw [List.getElem?_map, List.getElem?_range hi]; rfl) hm
    rw [hd, hu] at e
    have := (hf (j / size) hi).2.1 (j % size) u e.symm
    rw [add_plain]
    rw [Nat.add_assoc, hd] at this
    exact this
theorem OwnR.pushG {α : Type} {base size : Nat} {T : TypeId} {R : World → List Value → α → Prop} (hR : Kept R) {w w' : World} {l m : List α} {css dss : List (List Value)} (h1 : css.length = l.length) (h2 : ∀ cs ∈ css, cs.length = size) (h3 : ∀ (i : Nat) (cs : List Value) (x : α), css[i]? = some cs → l[i]? = some x → R w cs x)
    (d1 : dss.length = m.length) (d2 : ∀ cs ∈ dss, cs.length = size) (d3 : ∀ (i : Nat) (cs : List Value) (x : α), dss[i]? = some cs → m[i]? = some x → R w cs x) {v' : Value}
    (hown : w'.ownsRow base T size v' (l.length + m.length) (css.flatten ++ dss.flatten)) (hk : KeepD w w') : OwnR base T size R w' v' (l ++ m) := by
  refine ⟨css ++ dss, by simp [h1, d1], ?_, ?_, ?_⟩
  · intro c hc
    rcases List.mem_append.1 hc with h | h
    · exact h2 c h
    · exact d2 c h
  · intro i c y hc hy
    by_cases hi : i < l.length
    · rw [List.getElem?_append_left (by omega)] at hc
      rw [List.getElem?_append_left hi] at hy
      exact hR _ _ _ _ (h3 i c y hc hy) hk
    · rw [List.getElem?_append_right (by omega), h1] at hc
      rw [List.getElem?_append_right (by omega)] at hy
      exact hR _ _ _ _ (d3 _ c y hc hy) hk
  · rw [List.length_append, List.flatten_append]; exact hown
theorem run_append_rows {α : Type} {P : Program} {base size bytes : Nat} {T t ty : TypeId} {i : TypeInfo} {z : Value} {R : World → List Value → α → Prop} (hR : Kept R) (hone : ∀ (w : World) (cs : List Value) (x : α), R w cs x → ∀ u ∈ cs, u.oneCell' = true) (hT : T ≠ 108 ∧ T ≠ 150)
    (ht : P.underlying t = some (.slice T)) (hi : P.info? T = some i) (hz : i.zero = some z) (hsize : i.size = size) (hby : i.bytes = bytes) (hzs : z.cells.size = size) (hsz : 0 < size)
    {w : World} {v x : Value} {l m : List α} (hO : OwnR base T size R w v l) (hX : Rows size T R w x m) (h63 : l.length + m.length ≤ maxLen) (hbytes : (l.length + m.length) * bytes ≤ 140737488355328) (hbase : base ≤ w.heap.size) :
    ∃ v' w', (Builtin.append_ #[t, t] ty #[v, x]).run P w = .ok v' w' ∧ OwnR base T size R w' v' (l ++ m) ∧ Below base w w' ∧ OnlyT T w w' := by
  by_cases hm : m.length = 0
  · obtain rfl : m = [] := List.length_eq_zero_iff.1 hm
    obtain ⟨ao, c, rfl, -, -, -⟩ := hX.slice
    obtain ⟨a1, c1, rfl, hc1, -, hc3⟩ := hO.slice
    refine ⟨_, w, ?_, by rw [List.append_nil]; exact hO, Below.refl _ _, OnlyT.refl _ _⟩
    have hfc : (Builtin.firstCells size 0 (.slice ao 0 c)).run P w = .ok #[] w := by
      cases ao with
      | none => exact run_firstCells_none w _ _ _ _
      | some ad => exact run_firstCells_some w size 0 ad 0 c [] (by simp) (by simp)
    have hso : (sizeOf T).run P w = .ok size w := by rw [← hsize]; simp [sizeOf, typeInfo, hi]
    cases a1 with
    | none => simp [Builtin.append_, run_underlying ht, hso, hfc, Builtin.lenOf, hc1]
    | some ad => simp [Builtin.append_, run_underlying ht, hso, hfc, Builtin.lenOf, hc1, storeCells]
  · obtain ⟨b, o, c, rfl, -, -, -⟩ := hX.open_ (by omega)
    obtain ⟨css, h1, h2, h3, h4⟩ := hO
    obtain ⟨dss, d1, d2, d3, d4, d5⟩ := rows_flatG hsz hone hX
    obtain ⟨g, cap, w', hr, k1, k2, k3, k4⟩ := run_append_lies (P := P) w t ty base T i z size bytes ht hi hz hsize hby hzs hsz v l.length _ h4 ⟨b, o, none⟩ m.length c dss.flatten (by rw [flat_length _ d2, d1]) d5 d4 (by omega) h63 hbytes hbase _ rfl
    exact ⟨_, w', hr, OwnR.pushG hR h1 h2 h3 d1 d2 d3 k1 (KeepD.owns h4 k2 hT), (Below.refl base w).grown k2 hbase (fun k hk => (h4.lt k hk).1), owns_onlyT h4 k2⟩
theorem wp_append_rows {α : Type} {P : Program} {o : Oper} {a : Act} {K : Act → World → Prop} {Q : Exit → Act → World → Prop} (s y : Operand) {base size bytes : Nat} {T t : TypeId} {i : TypeInfo} {z : Value} {R : World → List Value → α → Prop} (hR : Kept R) (hone : ∀ (w : World) (cs : List Value) (x : α), R w cs x → ∀ u ∈ cs, u.oneCell' = true) (hT : T ≠ 108 ∧ T ≠ 150)
    (ho : o.op = .call { callee := .builtin .append, args := #[s, y], argTypes := #[t, t] })
    (ht : P.underlying t = some (.slice T)) (hi : P.info? T = some i) (hz : i.zero = some z) (hsize : i.size = size) (hby : i.bytes = bytes) (hzs : z.cells.size = size) (hsz : 0 < size)
    {w : World} {v x : Value} {l m : List α} (hs : a.eval s = v) (hx : a.eval y = x) (hO : OwnR base T size R w v l) (hX : Rows size T R w x m) (h63 : l.length + m.length ≤ maxLen) (hbytes : (l.length + m.length) * bytes ≤ 140737488355328) (hbase : base ≤ w.heap.size)
    (h : ∀ v' w', OwnR base T size R w' v' (l ++ m) → Below base w w' → OnlyT T w w' → K (a.put o.dst v') w') : o.wp P a w K Q := by
  obtain ⟨v', w', hr, h2, h3, h4⟩ := run_append_rows (P := P) (t := t) (ty := o.type) hR hone hT ht hi hz hsize hby hzs hsz hO hX h63 hbytes hbase
  unfold Oper.wp execOp
  simp only [ho, resolve, invoke, builtin, Sem.run_bind, Sem.run_pure, Result.andThen_ok, List.map_toArray, List.map_cons, List.map_nil, hs, hx, hr]
  exact h v' w' h2 h3 h4
end Go.Proofs.YtbnomdlojmgigaaGreat
namespace Go.Proofs.YtbnomdlojmgigaaGreat
open Go
def noDefer (ops : Array Oper) : Bool := ops.all fun o => match o.op with | .defer _ => false | _ => true
theorem noDefer_spec {ops : Array Oper} (h : noDefer ops = true) {j : Nat} {o : Oper} (hj : ops[j]? = some o) : ∀ c, o.op ≠ .defer c := by
  intro c e
  obtain ⟨hlt, rfl⟩ := Array.getElem?_eq_some_iff.1 hj
  have := Array.all_eq_true.1 h j hlt
  rw [e] at this
  cases this
section
variable {F : Fence} {n : Nat} {P : Program} {ops : Array Oper} {Q : Exit → Act → World → Prop} {md : Region.Mode} {S : World → Prop} {m : Nat}
def YieldsIfIn (P : Program) (ops : Array Oper) (S : World → Prop) (o : Oper) (v : Value) (a : Act) : Prop := YieldsIf P ops S o v a ∧ ∀ w, o.about P w a.eval = none
theorem YieldsIfIn.wpOpIn {i : Nat} {o : Oper} {v : Value} {a : Act} (hd : ∀ c, o.op ≠ .defer c) (hi : ops[i]? = some o) (hy : YieldsIfIn P ops S o v a)
    {K : Act → World → Prop} {w : World} (hS : S w) (h : K (a.put o.dst v) w) : wpOpIn F n P ops Q i K a w := by
  unfold Go.wpOpIn
  simp only [hi]
  have hab : ∀ f, o.about P w a.eval = some f → F.fn f := fun f hf => by rw [hy.2 w] at hf; cases hf
  rcases hy.1 with ⟨hw, hv⟩ | ⟨hw, rfl⟩
  · simp only [hw, if_true, Oper.wpIn, Oper.semAt_eq F.round a.eval o hd, hv w hS, Oper.uponIn]; exact ⟨hab, h⟩
  · simp only [hw, Bool.false_eq_true, if_false]; exact ⟨hab, h⟩
theorem YieldsIfIn.of_same {o : Oper} {v : Value} {a a' : Act} (hy : YieldsIfIn P ops S o v a) (he : execOp a'.eval o = execOp a.eval o)
    (hw : Region.wanted o (yielded ops a'.tmps) = Region.wanted o (yielded ops a.tmps)) (hb : ∀ w, o.about P w a'.eval = o.about P w a.eval) : YieldsIfIn P ops S o v a' :=
  ⟨hy.1.of_same he hw, fun w => by rw [hb w]; exact hy.2 w⟩
theorem wpOpIn_putU {j : Nat} {oi oj : Oper} {v : Value} (hdj : ∀ c, oj.op ≠ .defer c) (hj : ops[j]? = some oj) (hap : oi.apart ops oj = true)
    (hsi : ∀ cs b, oi.op ≠ .select cs b) (hsj : ∀ cs b, oj.op ≠ .select cs b)
    (hQ : ∀ c a w, Q (.panic c) (a.put oi.dst v) w → Q (.panic c) a w) {K : Act → World → Prop} {a : Act} {w : World}
    (hy : YieldsIfIn P ops S oi v a) (h : wpOpIn F n P ops Q j K (a.put oi.dst v) w) :
    wpOpIn F n P ops Q j (fun a' w' => YieldsIfIn P ops S oi v a' ∧ K (a'.put oi.dst v) w') a w := by
  obtain ⟨h1, h2, h3⟩ := Oper.apart_spec hap
  have keep : ∀ (a : Act), YieldsIfIn P ops S oi v a → ∀ u, YieldsIfIn P ops S oi v (a.put oj.dst u) := fun a hy u =>
    hy.of_same (execOp_put oi hsi a oj.dst u h3) (wanted_put oi a oj.dst u h3) (fun w => about_put oi w a oj.dst u h3)
  have keepD : ∀ d, YieldsIfIn P ops S oi v { a with defers := d :: a.defers } := fun d => hy.of_same rfl rfl (fun _ => rfl)
  unfold wpOpIn at *
  simp only [hj] at *
  rw [wanted_put oj a oi.dst v h1, about_put oj w a oi.dst v h1] at h
  split
  · rename_i hw
    simp only [hw, if_true] at h
    unfold Oper.wpIn at *
    rw [about_put oj w a oi.dst v h1] at h
    refine ⟨h.1, ?_⟩
    have h := h.2
    rw [Oper.semAt_eq _ _ _ hdj, execOp_put oj hsj a oi.dst v h1] at h
    rw [Oper.semAt_eq _ _ _ hdj]
    generalize (execOp a.eval oj).run P w = r at *
    cases r with
    | ok x w' =>
      cases x <;> simp only [Oper.uponIn] at h ⊢
      case value u => exact ⟨keep a hy u, by rw [← Act.put_comm a v u h2]; exact h⟩
      case skip => exact ⟨keep a hy _, by rw [← Act.put_comm a v undef h2]; exact h⟩
      case defer d =>
        refine ⟨keep _ (keepD d) _, ?_⟩
        rw [← Act.put_comm _ v undef h2, ← Act.put_defers]
        exact h
      case enter f args =>
        refine ⟨h.1, CallsIn.mono h.2 fun e w'' he => ?_⟩
        cases e with
        | returned u => exact ⟨keep a hy u, by rw [← Act.put_comm a v u h2]; exact he⟩
        | panicked c => exact hQ _ _ _ he
        | outgrown => exact he
      case row row args => exact ⟨h.1, RowsIn.mono h.2 fun u w'' he => ⟨keep a hy u, by rw [← Act.put_comm a v u h2]; exact he⟩⟩
      case round l f tmps assign body =>
        refine ⟨h.1, RoundIn.mono h.2 fun e w'' he => ?_⟩
        cases e with
        | returned u => exact ⟨keep a hy u, by rw [← Act.put_comm a v u h2]; exact he⟩
        | panicked c => exact hQ _ _ _ he
        | outgrown => exact he
    | halt x w' =>
      cases x <;> simp only [Oper.uponIn] at h ⊢
      case panic u => exact hQ _ _ _ h
  · rename_i hw
    simp only [hw] at h
    exact ⟨h.1, keep a hy _, by rw [← Act.put_comm a v undef h2]; exact h.2⟩
def waitsIn (md : Region.Mode) (ops : Array Oper) (m i : Nat) : Bool := waitsFor md ops m i || decide (ops.size ≤ m)
theorem not_ready_of_waitsIn {listed : Array Bool} {i : Nat} (hw : waitsIn md ops m i = true) (hi : i ∈ Region.ready md ops listed) : ¬ m ∈ Region.ready md ops listed := by
  unfold waitsIn at hw
  rw [Bool.or_eq_true] at hw
  rcases hw with hw | hw
  · exact not_ready_of_waits hw hi
  · intro hm
    obtain ⟨_, om, hom, _⟩ := mem_ready.1 hm
    have h1 := (Array.getElem?_eq_some_iff.1 hom).1
    have h2 := of_decide_eq_true hw
    omega
def AnyUI (F : Fence) (n : Nat) (P : Program) (md : Region.Mode) (ops : Array Oper) (Q : Exit → Act → World → Prop) (S : World → Prop) (m : Nat) : Nat → Array Bool → Act → World → Prop
  | 0, listed, a, w => Region.ready md ops listed = [] ∧ Q .normal a w
  | fuel + 1, listed, a, w =>
    (Region.ready md ops listed = [] → Q .normal a w) ∧
    ∀ i ∈ Region.ready md ops listed, wpOpIn F n P ops Q i (fun a' w' => (i = m ∨ S w') ∧ AnyUI F n P md ops Q S m fuel (listed.setIfInBounds i true) a' w') a w
theorem AnyUI.abs {fuel : Nat} {listed : Array Bool} {a : Act} {w : World} (h : ∀ w', w' = w → AnyUI F n P md ops Q S m fuel listed a w') : AnyUI F n P md ops Q S m fuel listed a w := h w rfl
theorem any_of_UI : ∀ (fuel : Nat) (listed : Array Bool) (a : Act) (w : World), AnyUI F n P md ops Q S m fuel listed a w → wpAnyIn F n P md ops Q fuel listed a w
  | 0, _, _, _, h => h
  | fuel + 1, _, _, _, h => ⟨h.1, fun i hi => wpOpIn_mono (fun a' w' h' => any_of_UI fuel _ a' w' h'.2) (h.2 i hi)⟩
theorem UI_first {i : Nat} {oi : Oper} {v : Value} (hnd : noDefer ops = true) (hi : ops[i]? = some oi) (hwt : waitsIn md ops m i = true) (hsel : ∀ (j : Nat) (o : Oper) cs b, ops[j]? = some o → o.op ≠ .select cs b)
    (hQ : ∀ c a w, Q (.panic c) (a.put oi.dst v) w → Q (.panic c) a w) :
    ∀ (fuel : Nat) (listed : Array Bool) (a : Act) (w : World),
      (∀ j oj, ops[j]? = some oj → j ≠ i → listed.getD j true = false → (∀ e ∈ oj.after, Region.binds md e = true → e.on ≠ i) → oi.apart ops oj = true) →
      i ∈ Region.ready md ops listed → YieldsIfIn P ops S oi v a → S w →
      AnyUI F n P md ops Q S m fuel (listed.setIfInBounds i true) (a.put oi.dst v) w → AnyUI F n P md ops Q S m (fuel + 1) listed a w := by
  intro fuel
  induction fuel with
  | zero =>
    intro listed a w _ hr hy hS H
    refine ⟨fun h => (by rw [h] at hr; cases hr), fun j hj => ?_⟩
    by_cases hji : j = i
    · subst hji; exact hy.wpOpIn (noDefer_spec hnd hi) hi hS ⟨.inr hS, H⟩
    · have := ready_mono hj hji
      rw [H.1] at this
      cases this
  | succ fuel ih =>
    intro listed a w hfree hr hy hS H
    refine ⟨fun h => (by rw [h] at hr; cases hr), fun j hj => ?_⟩
    by_cases hji : j = i
    · subst hji; exact hy.wpOpIn (noDefer_spec hnd hi) hi hS ⟨.inr hS, H⟩
    · have hjm : j ≠ m := fun e => not_ready_of_waitsIn hwt hr (e ▸ hj)
      have h1 := H.2 j (ready_mono hj hji)
      obtain ⟨hjun, oj, hoj, hall⟩ := mem_ready.1 hj
      have hnot : ∀ e ∈ oj.after, Region.binds md e = true → e.on ≠ i := fun e he hb heq => by
        have h1 := hall e he hb
        have h0 := (mem_ready.1 hr).1
        rw [heq] at h1
        rcases Nat.lt_or_ge i listed.size with h' | h'
        · simp [h'] at h0 h1; rw [h0] at h1; cases h1
        · simp [Array.getElem?_eq_none h'] at h1
      have h2 := wpOpIn_putU (noDefer_spec hnd hoj) hoj (hfree j oj hoj hji hjun hnot) (fun cs b => hsel i oi cs b hi) (fun cs b => hsel j oj cs b hoj) hQ hy h1
      have hfree' : ∀ k ok, ops[k]? = some ok → k ≠ i → (listed.setIfInBounds j true).getD k true = false →
          (∀ e ∈ ok.after, Region.binds md e = true → e.on ≠ i) → oi.apart ops ok = true := fun k ok hk hki hun hno => by
        refine hfree k ok hk hki ?_ hno
        by_cases hjk : j = k
        · subst hjk; exact hjun
        · rw [getD_set_ne true hjk] at hun; exact hun
      refine wpOpIn_mono (fun a' w' h3 => ⟨.inr (h3.2.1.resolve_left hjm), ih (listed.setIfInBounds j true) a' w' hfree' (ready_mono hr (Ne.symm hji)) h3.1 (h3.2.1.resolve_left hjm) ?_⟩) h2
      rw [Array.setIfInBounds_comm _ _ hji]
      exact h3.2.2
theorem UI_take {i : Nat} {oi : Oper} {v : Value} {fuel : Nat} {listed : Array Bool} {a : Act} {w : World} (hnd : noDefer ops = true) (hi : ops[i]? = some oi) (hwt : waitsIn md ops m i = true)
    (hs : Region.noSelect ops = true) (hf : Region.free md ops listed i = true) (hr : (Region.ready md ops listed).contains i = true)
    (hQ : ∀ c a w, Q (.panic c) (a.put oi.dst v) w → Q (.panic c) a w) (hy : YieldsIf P ops S oi v a) (hab : ∀ w, oi.about P w a.eval = none) (hS : S w)
    (h : AnyUI F n P md ops Q S m fuel (listed.setIfInBounds i true) (a.put oi.dst v) w) : AnyUI F n P md ops Q S m (fuel + 1) listed a w :=
  UI_first hnd hi hwt (Region.noSelect_spec hs) hQ fuel listed a w (Region.free_spec hi hf) (by simpa using hr) ⟨hy, hab⟩ hS h
theorem wpOpIn_one {i : Nat} {o : Oper} {a : Act} {w : World} {K : Act → World → Prop} (ho : ops[i]? = some o)
    (h : ∀ K' : Act → World → Prop, (∀ a w, K a w → K' a w) → if Region.wanted o (yielded ops a.tmps) = true then o.wpIn F n P a w K' Q else (∀ f, o.about P w a.eval = some f → F.fn f) ∧ K' (a.put o.dst undef) w) : wpOpIn F n P ops Q i K a w := by
  unfold wpOpIn
  simp only [ho]
  exact h K (fun _ _ h => h)
theorem UI_one {i : Nat} {o : Oper} {fuel : Nat} {listed : Array Bool} {a : Act} {w : World} (hr : Region.ready md ops listed = [i]) (ho : ops[i]? = some o)
    (h : ∀ K' : Act → World → Prop, Shut (∀ a w, S w → (S w → AnyUI F n P md ops Q S m fuel (listed.setIfInBounds i true) a w) → K' a w) → if Region.wanted o (yielded ops a.tmps) = true then o.wpIn F n P a w K' Q else (∀ f, o.about P w a.eval = some f → F.fn f) ∧ K' (a.put o.dst undef) w) :
    AnyUI F n P md ops Q S m (fuel + 1) listed a w := by
  refine ⟨fun h0 => (by rw [h0] at hr; cases hr), fun j hj => ?_⟩
  rw [hr] at hj
  simp only [List.mem_singleton] at hj
  subst hj
  exact wpOpIn_one ho (fun K' hK => h K' (fun a w hS hW => hK a w ⟨.inr hS, hW hS⟩))
theorem UI_end {fuel : Nat} {listed : Array Bool} {a : Act} {w : World} (hr : Region.ready md ops listed = []) (h : Q .normal a w) : AnyUI F n P md ops Q S m fuel listed a w := by
  cases fuel with
  | zero => exact ⟨hr, h⟩
  | succ n => exact ⟨fun _ => h, by rw [hr]; simp⟩
theorem UI_region {id : Nat} {a : Act} {w : World} (hm : P.follows .mixedOrders = true) (m : Nat)
    (h : AnyUI F n P .any ops Q S m ops.size (Array.replicate ops.size false) a w.drew) : (Code.region id ops true).wpIn F n P Q a w :=
  wpIn_region_any hm (any_of_UI _ _ _ _ h)
end
end Go.Proofs.YtbnomdlojmgigaaGreat
namespace Go.Proofs.YtbnomdlojmgigaaGreat
open Go Go.RowKit
section
variable {F : Fence} {n : Nat} {P : Program}
end
section
variable {P : Program} {ops : Array Oper} {Q : Exit → Act → World → Prop} {md : Region.Mode} {S : World → Prop} {m l n : Nat}
theorem rows_wide {row : String} {args : Array Value} {w : World} {R : Value → World → Prop} (h : _root_.Go.Rows P row args w R) : RowsIn (Fence.wide.inRound l) n P row args w R :=
  by
  intro c cs _
  obtain ⟨v, w', r, s⟩ := h c cs
  exact ⟨v, w', r, stepsIn_wide.2 s⟩
theorem upon_in {o : Oper} {a : Act} {next : Act → World → Prop} {r : Result Next} (h : o.upon P a next Q r) : o.uponIn (Fence.wide.inRound l) n P a next Q r := by
  cases r with
  | ok x w' =>
    cases x
    case value v => exact h
    case skip => exact h
    case defer d => exact h
    case enter f args => exact ⟨fun e => (by cases e), (callsIn_wide.2 h).inRound l⟩
    case row row args => exact ⟨fun e => (by cases e), rows_wide h⟩
    all_goals exact h.elim
  | halt x w' => cases x <;> exact h
theorem wpOp_in (hd : noDefer ops = true) (hQ : ∀ a w, ¬ Q .outgrown a w) {i : Nat} {K : Act → World → Prop} {a : Act} {w : World} (h : wpOp P ops Q i K a w) :
    wpOpIn (Fence.wide.inRound l) n P ops Q i K a w := by
  unfold wpOp at h
  unfold wpOpIn
  cases ho : ops[i]? with
  | none => simp only [ho] at h ⊢; exact h
  | some o =>
    simp only [ho] at h ⊢
    split
    · rename_i hw
      simp only [hw, if_true] at h
      rcases h with h | ⟨_, a', w', hx⟩
      · refine ⟨fun _ _ => trivial, ?_⟩
        rw [Oper.semAt_eq _ _ _ (noDefer_spec hd ho)]
        exact upon_in h
      · exact (hQ _ _ hx).elim
    · rename_i hw
      simp only [hw] at h
      exact ⟨fun _ _ => trivial, h⟩
theorem wpAny_in (hd : noDefer ops = true) (hQ : ∀ a w, ¬ Q .outgrown a w) : ∀ (fuel : Nat) (listed : Array Bool) (a : Act) (w : World),
    wpAny P md ops Q fuel listed a w → wpAnyIn (Fence.wide.inRound l) n P md ops Q fuel listed a w
  | 0, _, _, _, h => h
  | fuel + 1, _, _, _, h => ⟨h.1, fun i hi => wpOpIn_mono (fun a' w' h' => wpAny_in hd hQ fuel _ a' w' h') (wpOp_in hd hQ (h.2 i hi))⟩
theorem R_region {id : Nat} {a : Act} {w : World} (hd : noDefer ops = true) (hQ : ∀ a w, ¬ Q .outgrown a w) (hm : P.follows .mixedOrders = true) (m : Nat)
    (h : AnyU P .any ops Q S m ops.size (Array.replicate ops.size false) a w.drew) : (Code.region id ops true).wpIn (Fence.wide.inRound l) n P Q a w :=
  wpIn_region_any hm (wpAny_in hd hQ _ _ _ _ (any_of_U _ _ _ _ h))
end
end Go.Proofs.YtbnomdlojmgigaaGreat
namespace Go.Proofs.YtbnomdlojmgigaaGreat
open Go Go.RowKit
section
variable {F : Fence} {n : Nat} {P : Program}
def endJ (l : Nat) (rec : LoopState → Option Code → Loop) (R : Ending → World → Prop) : Exit → Act → World → Prop
  | .normal, _, W => W.heap[l]? = some (.loop (rec .busy none)) ∧ R (.returned (.bool true)) (W.putObj l (.loop (rec .ready none)))
  | .ret, _, W => W.heap[l]? = some (.loop (rec .busy none)) ∧ R (.returned (.bool false)) (W.putObj l (.loop (rec .done (some .ret))))
  | .exit id, _, W => W.heap[l]? = some (.loop (rec .busy none)) ∧ R (.returned (.bool false)) (W.putObj l (.loop (rec .done (some (.exit id)))))
  | _, _, _ => False
theorem rangeJointR {g : Operand} {ps : Array Tmp} {assign body : Code} {Q : Exit → Act → World → Prop} {a : Act} {w : World}
    (hro : F.round = none) (h1 : 1 ≤ n) {gf : Nat} {lb : Array Value} (hg : a.eval g = .func (.func gf) #[] lb) (hFg : F.fn gf) (eg : ∀ args w, (callFunc gf args).run P w = .ok (.enter gf args) w)
    (h : ∀ (rec : LoopState → Option Code → Loop) (l D : Nat) (W1 : World), l = w.heap.size + 1 → D = w.heap.size → W1 = (w.alloc (.deferred (some []))).alloc (.loop (rec .ready none)) →
      (∀ (args : Array Value) (W : World) (R : Ending → World → Prop), args.size = ps.size → W.heap[l]? = some (.loop (rec .ready none)) →
        assign.wpIn (F.inRound l) (n - 1 - 1) P (Exit.then (fun a₁ w₁ => w₁.heap[l]? = some (.loop (rec .ready none)) ∧
          body.wpIn (F.inRound l) (n - 1 - 1) P (endJ l rec R) a₁ (w₁.putObj l (.loop (rec .busy none)))) (fun _ _ _ => False))
          { tmps := (ps.zip args).foldl (fun t (p, v) => t.setIfInBounds p v) a.tmps, defers := [] } W →
        YieldAt F (n - 1 - 1) P l args W R) →
      CallsIn F (n - 1) P gf (#[.func (.yield l) #[] #[]] ++ lb) W1 (fun e W2 => (∃ v, e = .returned v) ∧
        ((W2.heap[l]? = some (.loop (rec .ready none)) ∧ Q .normal { a with defers := { target := .collected D, args := #[] } :: a.defers } (W2.putObj l (.loop (rec .exhausted none)))) ∨
         ∃ c, W2.heap[l]? = some (.loop (rec .done (some c))) ∧ c.wpIn F n P Q { a with defers := { target := .collected D, args := #[] } :: a.defers } (W2.putObj l (.loop (rec .exhausted (some c))))))) :
    (Code.rangeFunc g ps assign body).wpIn F n P Q a w := by
  refine wpIn_rangeFunc ?_
  intro fn hfn
  rw [hro]
  obtain ⟨rec, hrec⟩ : ∃ rec : LoopState → Option Code → Loop, rec = fun st pe => { state := st, pending := pe, fn, tmps := a.tmps, params := ps, assign, body, defers := w.heap.size } := ⟨_, rfl⟩
  obtain ⟨W1, hW1⟩ : ∃ W1, W1 = (w.alloc (.deferred (some []))).alloc (.loop (rec .ready none)) := ⟨_, rfl⟩
  have hc := h rec (w.heap.size + 1) w.heap.size W1 rfl rfl hW1 (by
    intro args W R hs hl ha
    have hy := run_yield (P := P) (args := args) hl (by rw [hrec]; exact hs)
    rw [hrec] at hy
    refine ⟨fn, _, assign, body, hy, roundIn_of_wpIn hfn (wpIn_mono ha ?_)⟩
    rintro e a₁ w₁ hp
    cases e with
    | normal =>
      obtain ⟨hl1, hb⟩ := hp
      have hbr := run_beginRound (P := P) hl1 (by rw [hrec])
      rw [show ({ rec .ready none with state := .busy } : Loop) = rec .busy none by rw [hrec]] at hbr
      refine ⟨_, hbr, wpIn_mono hb ?_⟩
      rintro e a3 W3 hp3
      have fin : ∀ (jump : Option Code), W3.heap[w.heap.size + 1]? = some (.loop (rec .busy none)) → (Instr.endRound (w.heap.size + 1) jump).run P W3 = .ok (.bool jump.isNone) (W3.putObj (w.heap.size + 1) (.loop (rec (if jump.isNone then .ready else .done) jump))) := fun jump hl3 => by
        have := run_endRound (P := P) jump hl3
        rw [hrec] at this ⊢
        exact this
      cases e with
      | normal => exact ⟨_, _, fin none hp3.1, hp3.2⟩
      | ret => exact ⟨_, _, fin (some .ret) hp3.1, hp3.2⟩
      | exit id => exact ⟨_, _, fin (some (.exit id)) hp3.1, hp3.2⟩
      | goto t => exact hp3.elim
      | panic ch => exact hp3.elim
      | outgrown => exact hp3.elim
    | exit id => exact hp.elim
    | goto t => exact hp.elim
    | ret => exact hp.elim
    | panic ch => exact hp.elim
    | outgrown => exact hp.elim)
  refine ⟨w.heap.size + 1, [{ target := .collected w.heap.size, args := #[] }], W1, { target := .fn (.func gf) lb, args := #[.func (.yield (w.heap.size + 1)) #[] #[]] }, W1, gf,
    #[.func (.yield (w.heap.size + 1)) #[] #[]] ++ lb, W1, ?_, ?_, ?_, ?_, fun _ => h1, ?_⟩
  · rw [hW1, hrec]; exact run_enterLoop_outer _ _ _ _ _
  · simp only [resolve, hg]
    simp [go_sem]
  · intro f' hf'; simp [Target.leads] at hf'; subst hf'; exact hFg
  · simp [invoke, go_sem, eg]
  · refine hc.mono ?_
    rintro e W2 ⟨⟨v, rfl⟩, ⟨hl, hQ⟩ | ⟨c, hl, hQ⟩⟩
    · have hel := run_endLoop (P := P) hl (by rw [hrec]; simp)
      rw [show ({ rec .ready none with state := .exhausted } : Loop) = rec .exhausted none by rw [hrec], show (rec .ready none).pending = none by rw [hrec]] at hel
      exact ⟨none, _, hel, hQ⟩
    · have hel := run_endLoop (P := P) hl (by rw [hrec]; simp)
      rw [show ({ rec .done (some c) with state := .exhausted } : Loop) = rec .exhausted (some c) by rw [hrec], show (rec .done (some c)).pending = some c by rw [hrec]] at hel
      exact ⟨some c, _, hel, hQ⟩
theorem rangeJointN {l₀ : Nat} {r₀ : Loop} {g : Operand} {ps : Array Tmp} {assign body : Code} {Q : Exit → Act → World → Prop} {a : Act} {w : World}
    (hro : F.round = some l₀) (hl₀ : w.heap[l₀]? = some (.loop r₀)) (h1 : 1 ≤ n) {gf : Nat} {lb : Array Value} (hg : a.eval g = .func (.func gf) #[] lb) (hFg : F.fn gf) (eg : ∀ args w, (callFunc gf args).run P w = .ok (.enter gf args) w)
    (h : ∀ (rec : LoopState → Option Code → Loop) (l : Nat) (W1 : World), l = w.heap.size → W1 = w.alloc (.loop (rec .ready none)) →
      (∀ (args : Array Value) (W : World) (R : Ending → World → Prop), args.size = ps.size → W.heap[l]? = some (.loop (rec .ready none)) →
        assign.wpIn (F.inRound l) (n - 1 - 1) P (Exit.then (fun a₁ w₁ => w₁.heap[l]? = some (.loop (rec .ready none)) ∧
          body.wpIn (F.inRound l) (n - 1 - 1) P (endJ l rec R) a₁ (w₁.putObj l (.loop (rec .busy none)))) (fun _ _ _ => False))
          { tmps := (ps.zip args).foldl (fun t (p, v) => t.setIfInBounds p v) a.tmps, defers := [] } W →
        YieldAt F (n - 1 - 1) P l args W R) →
      CallsIn F (n - 1) P gf (#[.func (.yield l) #[] #[]] ++ lb) W1 (fun e W2 => (∃ v, e = .returned v) ∧
        ((W2.heap[l]? = some (.loop (rec .ready none)) ∧ Q .normal a (W2.putObj l (.loop (rec .exhausted none)))) ∨
         ∃ c, W2.heap[l]? = some (.loop (rec .done (some c))) ∧ c.wpIn F n P Q a (W2.putObj l (.loop (rec .exhausted (some c))))))) :
    (Code.rangeFunc g ps assign body).wpIn F n P Q a w := by
  refine wpIn_rangeFunc ?_
  intro fn hfn
  rw [hro]
  obtain ⟨rec, hrec⟩ : ∃ rec : LoopState → Option Code → Loop, rec = fun st pe => { state := st, pending := pe, fn, tmps := a.tmps, params := ps, assign, body, defers := r₀.defers } := ⟨_, rfl⟩
  obtain ⟨W1, hW1⟩ : ∃ W1, W1 = w.alloc (.loop (rec .ready none)) := ⟨_, rfl⟩
  have hc := h rec w.heap.size W1 rfl hW1 (by
    intro args W R hs hl ha
    have hy := run_yield (P := P) (args := args) hl (by rw [hrec]; exact hs)
    rw [hrec] at hy
    refine ⟨fn, _, assign, body, hy, roundIn_of_wpIn hfn (wpIn_mono ha ?_)⟩
    rintro e a₁ w₁ hp
    cases e with
    | normal =>
      obtain ⟨hl1, hb⟩ := hp
      have hbr := run_beginRound (P := P) hl1 (by rw [hrec])
      rw [show ({ rec .ready none with state := .busy } : Loop) = rec .busy none by rw [hrec]] at hbr
      refine ⟨_, hbr, wpIn_mono hb ?_⟩
      rintro e a3 W3 hp3
      have fin : ∀ (jump : Option Code), W3.heap[w.heap.size]? = some (.loop (rec .busy none)) → (Instr.endRound w.heap.size jump).run P W3 = .ok (.bool jump.isNone) (W3.putObj w.heap.size (.loop (rec (if jump.isNone then .ready else .done) jump))) := fun jump hl3 => by
        have := run_endRound (P := P) jump hl3
        rw [hrec] at this ⊢
        exact this
      cases e with
      | normal => exact ⟨_, _, fin none hp3.1, hp3.2⟩
      | ret => exact ⟨_, _, fin (some .ret) hp3.1, hp3.2⟩
      | exit id => exact ⟨_, _, fin (some (.exit id)) hp3.1, hp3.2⟩
      | goto t => exact hp3.elim
      | panic ch => exact hp3.elim
      | outgrown => exact hp3.elim
    | exit id => exact hp.elim
    | goto t => exact hp.elim
    | ret => exact hp.elim
    | panic ch => exact hp.elim
    | outgrown => exact hp.elim)
  refine ⟨w.heap.size, [], W1, { target := .fn (.func gf) lb, args := #[.func (.yield w.heap.size) #[] #[]] }, W1, gf,
    #[.func (.yield w.heap.size) #[] #[]] ++ lb, W1, ?_, ?_, ?_, ?_, fun _ => h1, ?_⟩
  · rw [hW1, hrec]; exact run_enterLoop_inner hl₀ _ _ _ _ _
  · simp only [resolve, hg]
    simp [go_sem]
  · intro f' hf'; simp [Target.leads] at hf'; subst hf'; exact hFg
  · simp [invoke, go_sem, eg]
  · refine hc.mono ?_
    rintro e W2 ⟨⟨v, rfl⟩, ⟨hl, hQ⟩ | ⟨c, hl, hQ⟩⟩
    · have hel := run_endLoop (P := P) hl (by rw [hrec]; simp)
      rw [show ({ rec .ready none with state := .exhausted } : Loop) = rec .exhausted none by rw [hrec], show (rec .ready none).pending = none by rw [hrec]] at hel
      exact ⟨none, _, hel, hQ⟩
    · have hel := run_endLoop (P := P) hl (by rw [hrec]; simp)
      rw [show ({ rec .done (some c) with state := .exhausted } : Loop) = rec .exhausted (some c) by rw [hrec], show (rec .done (some c)).pending = some c by rw [hrec]] at hel
      exact ⟨some c, _, hel, hQ⟩
end
end Go.Proofs.YtbnomdlojmgigaaGreat
