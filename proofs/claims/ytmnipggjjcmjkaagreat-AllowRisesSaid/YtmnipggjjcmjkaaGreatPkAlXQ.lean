/-
  A region that draws its order: its last operation, a store, waits for another one through others. No function of the program is in sight here.
-/
import Derived.Test.YtmnipggjjcmjkaaGreatPkHeld3Q
import Derived.Test.YtmnipggjjcmjkaaGreatPkAlWQ
set_option linter.unusedSimpArgs false
set_option linter.unusedVariables false
namespace Go.Proofs.YtmnipggjjcmjkaaGreat
open Go

section
variable {P : Program} {ops : Array Oper} {Q : Exit → Act → World → Prop} {md : Region.Mode} {S : World → Prop} {m : Nat}
/-- i and m belong to C; each of C but i waits for one of C; none is listed. -/
def chainB (md : Region.Mode) (ops : Array Oper) (C : List Nat) (m i : Nat) (listed : Array Bool) : Bool :=
  C.contains m && C.contains i && !(m == i) && C.all fun c => !(listed.getD c true) && (c == i || C.any fun b => waitsFor md ops c b)
theorem not_ready_of {listed : Array Bool} {c b : Nat} (hw : waitsFor md ops c b = true) (hb : listed.getD b true = false) : ¬ c ∈ Region.ready md ops listed := by
  intro hm
  obtain ⟨_, om, hom, hall⟩ := mem_ready.1 hm
  unfold waitsFor at hw
  rw [hom] at hw
  simp only [Option.map_some, Option.getD_some, Array.any_eq_true, Bool.and_eq_true, beq_iff_eq] at hw
  obtain ⟨k, hk, hb', he⟩ := hw
  have h1 := hall _ (Array.getElem_mem hk) hb'
  rw [he] at h1
  rcases Nat.lt_or_ge b listed.size with h' | h'
  · simp [h'] at hb h1; rw [hb] at h1; cases h1
  · simp [Array.getElem?_eq_none h'] at h1
theorem U_firstC {i : Nat} {oi : Oper} {v : Value} {C : List Nat} (hi : ops[i]? = some oi) (hmC : m ∈ C) (hmi : m ≠ i) (hw : ∀ c ∈ C, c ≠ i → ∃ b ∈ C, waitsFor md ops c b = true)
    (hsel : ∀ (j : Nat) (o : Oper) cs b, ops[j]? = some o → o.op ≠ .select cs b) (hQ : ∀ c a w, Q (.panic c) (a.put oi.dst v) w → Q (.panic c) a w) :
    ∀ (fuel : Nat) (listed : Array Bool) (a : Act) (w : World), (∀ c ∈ C, listed.getD c true = false) →
      (∀ j oj, ops[j]? = some oj → j ≠ i → listed.getD j true = false → (∀ e ∈ oj.after, Region.binds md e = true → e.on ≠ i) → oi.apart ops oj = true) →
      i ∈ Region.ready md ops listed → YieldsIf P ops S oi v a → S w →
      AnyU P md ops Q S m fuel (listed.setIfInBounds i true) (a.put oi.dst v) w → AnyU P md ops Q S m (fuel + 1) listed a w := by
  intro fuel
  induction fuel with
  | zero =>
    intro listed a w _ _ hr hy hS H
    refine ⟨fun h => (by rw [h] at hr; cases hr), fun j hj => ?_⟩
    by_cases hji : j = i
    · subst hji; exact hy.wpOp hi hS ⟨.inr hS, H⟩
    · have := ready_mono hj hji
      rw [H.1] at this
      cases this
  | succ fuel ih =>
    intro listed a w hun hfree hr hy hS H
    refine ⟨fun h => (by rw [h] at hr; cases hr), fun j hj => ?_⟩
    by_cases hji : j = i
    · subst hji; exact hy.wpOp hi hS ⟨.inr hS, H⟩
    · have hjC : ¬ j ∈ C := fun hc => by
        obtain ⟨b, hb, hwb⟩ := hw j hc hji
        exact not_ready_of hwb (hun b hb) hj
      have hjm : j ≠ m := fun e => hjC (e ▸ hmC)
      have h1 := H.2 j (ready_mono hj hji)
      obtain ⟨hjun, oj, hoj, hall⟩ := mem_ready.1 hj
      have hnot : ∀ e ∈ oj.after, Region.binds md e = true → e.on ≠ i := fun e he hb heq => by
        have h1 := hall e he hb
        have h0 := (mem_ready.1 hr).1
        rw [heq] at h1
        rcases Nat.lt_or_ge i listed.size with h' | h'
        · simp [h'] at h0 h1; rw [h0] at h1; cases h1
        · simp [Array.getElem?_eq_none h'] at h1
      have h2 := wpOp_putIf hoj (hfree j oj hoj hji hjun hnot) (fun cs b => hsel i oi cs b hi) (fun cs b => hsel j oj cs b hoj) hQ hy h1
      have hfree' : ∀ k ok, ops[k]? = some ok → k ≠ i → (listed.setIfInBounds j true).getD k true = false →
          (∀ e ∈ ok.after, Region.binds md e = true → e.on ≠ i) → oi.apart ops ok = true := fun k ok hk hki hun hno => by
        refine hfree k ok hk hki ?_ hno
        by_cases hjk : j = k
        · subst hjk; exact hjun
        · rw [getD_set_ne true hjk] at hun; exact hun
      have hun' : ∀ c ∈ C, (listed.setIfInBounds j true).getD c true = false := fun c hc => by
        rw [getD_set_ne true (show j ≠ c from fun e => hjC (e ▸ hc))]; exact hun c hc
      refine wpOp_mono (fun a' w' h3 => ⟨.inr (h3.2.1.resolve_left hjm), ih (listed.setIfInBounds j true) a' w' hun' hfree' (ready_mono hr (Ne.symm hji)) h3.1 (h3.2.1.resolve_left hjm) ?_⟩) h2
      rw [Array.setIfInBounds_comm _ _ hji]
      exact h3.2.2
/-- Take number i first. -/
theorem U_takeC (C : List Nat) {i : Nat} {oi : Oper} {v : Value} {fuel : Nat} {listed : Array Bool} {a : Act} {w : World} (hi : ops[i]? = some oi) (hc : chainB md ops C m i listed = true)
    (hs : Region.noSelect ops = true) (hf : Region.free md ops listed i = true) (hr : (Region.ready md ops listed).contains i = true)
    (hQ : ∀ c a w, Q (.panic c) (a.put oi.dst v) w → Q (.panic c) a w) (hy : YieldsIf P ops S oi v a) (hS : S w)
    (h : AnyU P md ops Q S m fuel (listed.setIfInBounds i true) (a.put oi.dst v) w) : AnyU P md ops Q S m (fuel + 1) listed a w := by
  unfold chainB at hc
  simp only [Bool.and_eq_true, List.contains_eq_mem, decide_eq_true_eq, Bool.not_eq_true', beq_eq_false_iff_ne, ne_eq, List.all_eq_true, Bool.or_eq_true, beq_iff_eq, List.any_eq_true] at hc
  obtain ⟨⟨⟨hm, _⟩, hmi⟩, hall⟩ := hc
  exact U_firstC hi hm hmi (fun c hc hci => ((hall c hc).2.resolve_left hci).imp fun b h => h) (Region.noSelect_spec hs) hQ fuel listed a w (fun c hc => (hall c hc).1) (Region.free_spec hi hf) (by simpa using hr) hy hS h
end
end Go.Proofs.YtmnipggjjcmjkaaGreat
/-
  allow: Rising.
-/
namespace Go.Proofs.YtmnipggjjcmjkaaGreat
open Go.RowKit Dg
attribute [local go_sem ↓] Go.wp_at_zero Go.wp_at_succ

/-- The chances of the first j segments (the first one first). -/
def outK (S : List (List Cls)) (j : Nat) : List Rat := ((S.take j).map fun a => List.replicate a.length (shQ (sumC a))).flatten
theorem outK_succ {S : List (List Cls)} {j : Nat} {a : List Cls} (h : S[j]? = some a) : outK S (j + 1) = outK S j ++ List.replicate a.length (shQ (sumC a)) := by
  unfold outK
  have hj := (List.getElem?_eq_some_iff.1 h).1
  have ha := (List.getElem?_eq_some_iff.1 h).2
  rw [List.take_succ_eq_append_getElem hj, List.map_append, List.flatten_append, ha]; simp
theorem outK_all (s : List (List Cls)) : outK s.reverse s.length = outR s := by
  unfold outK
  rw [List.take_of_length_le (by simp)]
  induction s with
  | nil => rfl
  | cons a s ih => rw [List.reverse_cons, List.map_append, List.flatten_append, ih]; simp [outR]
theorem stJ_rev {s : List (List Cls)} {i : Nat} {a : List Cls} (h : s.reverse[i]? = some a) : clAt (stJ s) i = sumC a ∧ nthI (stM s) i = (a.length : Int) := by
  unfold clAt nthI stJ stM
  rw [List.getD_eq_getElem?_getD, List.getD_eq_getElem?_getD, List.getElem?_map, List.getElem?_map, h]; exact ⟨rfl, rfl⟩
theorem stJ_first {c : Cls} {r : List (List Cls)} {t f : Int} (h1 : c.1 = t) (h2 : c.2 = f) : stJ r ++ [(t, f)] = stJ ([c] :: r) := by
  subst h1 h2
  rw [stJ_cons]
  show _ = stJ r ++ [(c.1 + 0, c.2 + 0)]
  simp
theorem stM_first {c : Cls} {r : List (List Cls)} : stM r ++ [1] = stM ([c] :: r) := by rw [stM_cons]; rfl
theorem take_cl {L : List Cls} {k : Nat} (h : k < L.length) : L.take (k + 1) = L.take k ++ [clAt L k] := by
  rw [List.take_succ_eq_append_getElem h]
  have := clAt_some h
  rw [List.getElem?_eq_getElem h] at this
  injection this with this
  rw [this]

theorem okT_take {L : List Cls} (h : ∀ c ∈ L, ClOk c) (k : Nat) : okT (L.take k) := fun c hc => by have := h c (List.mem_of_mem_take hc); unfold ClOk at this; omega
theorem flat_le : ∀ {s : List (List Cls)}, chain s → s.length ≤ (flatR s).length
  | [], _ => Nat.zero_le _
  | a :: s, h => by
    have := flat_le h.2.2
    have p := List.length_pos_iff.2 h.1.1
    rw [flatR_cons, List.length_append, List.length_cons]; omega
theorem pav_flat {L : List Cls} (h : ∀ c ∈ L, ClOk c) : flatR (pavL L) = L := by
  have := (pav_ok (okT_take h L.length)).2
  rwa [List.take_length] at this
theorem chain_ne : ∀ {s : List (List Cls)}, chain s → ∀ a ∈ s, a ≠ []
  | b :: s, h, a, ha => by
    rcases List.mem_cons.1 ha with rfl | ha
    · exact h.1.1
    · exact chain_ne h.2.2 a ha
theorem pav_ne {L : List Cls} (h : ∀ c ∈ L, ClOk c) {a : List Cls} (ha : a ∈ pavL L) : a ≠ [] := by
  have := (pav_ok (okT_take h L.length)).1
  rw [List.take_length] at this
  exact chain_ne this a ha
theorem pavL_pos {L : List Cls} (h : ∀ c ∈ L, ClOk c) (h1 : 1 ≤ L.length) : 0 < (pavL L).length := by
  refine List.length_pos_iff.2 fun e => ?_
  have := pav_flat h
  rw [e] at this
  rw [← this] at h1
  simp [flatR] at h1
theorem pavL_len {L : List Cls} (h : ∀ c ∈ L, ClOk c) {k : Nat} (hk : k ≤ L.length) : (pavL (L.take k)).length ≤ k := by
  have := pav_ok (okT_take h k)
  have b := flat_le this.1
  rw [this.2, List.length_take] at b
  omega

theorem outK_len {L : List Cls} (h : ∀ c ∈ L, ClOk c) (h16 : L.length ≤ 16) : ∀ j, (outK (pavL L).reverse j).length ≤ 16 * j
  | 0 => by simp [outK]
  | j + 1 => by
    have ih := outK_len h h16 j
    by_cases e : j < (pavL L).reverse.length
    · have ha := List.getElem?_eq_getElem e
      have b := seg_bd h16 h (pav_flat h) (List.mem_reverse.1 (List.mem_of_getElem? ha)) (pav_ne h (List.mem_reverse.1 (List.mem_of_getElem? ha)))
      rw [outK_succ ha, List.length_append, List.length_replicate]
      omega
    · have e2 : outK (pavL L).reverse (j + 1) = outK (pavL L).reverse j := by
        unfold outK
        rw [List.take_of_length_le (by omega), List.take_of_length_le (by omega)]
      rw [e2]; omega

set_option maxRecDepth 100000 in
set_option maxHeartbeats 16000000 in
theorem al_Rising {v : Value} {L : List Cls} (w : World) (hl : RowsI 2 ClC w v L) (h1 : 1 ≤ L.length) (h16 : L.length ≤ 16) (hok : ∀ c ∈ L, ClOk c) : Calls Tryz.prog 36 #[v] w (Ret2 (fun w v => Rows 3 29 PC w v (outR (pavL L))) (fun _ v => v = .int .i64 0) w) := by
  obtain ⟨bhl, ohl, khl, rfl, hl1, hl2⟩ := hl.openI (by omega)
  have HLI := Lib.hid hl
  clear hl
  have HOK := Lib.hid hok
  clear hok
  have hs := Below.refl w.heap.size w
  obtain ⟨i0, hi, hz0, hz1, hz2⟩ := info_parts cls_info
  obtain ⟨j0, hj, hy0, hy1, hy2⟩ := info_parts int_info
  obtain ⟨q0, hq, hx0, hx1, hx2⟩ := info_parts alP_info
  go_enter Tryz.func36, Tryz.ntmps36
  go_wp2_with fail
  with_reducible refine (al_checkClasses _ (HLI.out.mono ClC.kept hs) (by omega) (by omega) HOK.out).mono ?_
  rintro e w1 ⟨rfl, hb⟩
  replace hs := bStep hs hb
  clear hb
  go_wp2
  have HB0_1 := Lib.hid hs
  clear hs
  have hs := Below.refl w1.heap.size w1
  go_loopw [5, 6, 20] (fun s5 s6 s20 wq => ∃ k : Nat, k ≤ L.length ∧ s20 = .int .i64 k ∧ Below w1.heap.size w1 wq ∧ OwnR w1.heap.size 57 2 ClC wq s5 (stJ (pavL (L.take k))) ∧ OwnR w1.heap.size 3 1 IC wq s6 (stM (pavL (L.take k))) ∧ (Ap2 s5.ownBlock s6.ownBlock)) (fun s5 s6 s20 _ => L.length - (intOf s20).toNat)
  case atStart => exact ⟨0, Nat.zero_le _, rfl, hs, OwnR.nil _ _ _ _ _, OwnR.nil _ _ _ _ _, Ap2.nil _⟩
  case round =>
    clear hs
    obtain ⟨k, k_le, rfl, hs, Ojo, Oma, Aq_jo_ma⟩ := hrel
    have lpv := pavL_len HOK.out (show k ≤ L.length by omega)
    have lnj : (stJ (pavL (L.take k))).length ≤ k := Nat.le_trans (Nat.le_of_eq (stJ_len _)) lpv
    have lnm : (stM (pavL (L.take k))).length ≤ k := Nat.le_trans (Nat.le_of_eq (stM_len _)) lpv
    by_cases q2 : k < L.length
    · have q2d : ((k : Int) < (L.length : Int)) = True := eq_true (by omega)
      obtain ⟨Ee30, Ee31, le3⟩ := rowClI_at (HLI.out.mono ClC.kept (bStep HB0_1.out hs)) (show k < L.length by omega)
      obtain ⟨te3, Hte3⟩ : ∃ z : Int, z = (clAt L k).1 := ⟨_, rfl⟩
      obtain ⟨fe3, Hfe3⟩ : ∃ z : Int, z = (clAt L k).2 := ⟨_, rfl⟩
      rw [← Hte3] at Ee30
      rw [← Hfe3] at Ee31
      obtain ⟨bte3a, bte3b, bfe3a, bfe3b⟩ : 1 ≤ te3 ∧ te3 ≤ 64 ∧ 0 ≤ fe3 ∧ fe3 ≤ te3 := by rw [Hte3, Hfe3]; exact HOK.out _ (List.mem_of_getElem? (clAt_some (by omega)))
      replace Hte3 := Lib.hid Hte3.symm
      replace Hfe3 := Lib.hid Hfe3.symm
      go_wp2_with (at_builtin; refine wpList.stop ?_)
      refine ⟨?_⟩
      clear le3 Ee30 Ee31
      refine wpList.abs ?_
      intro w22 hW
      have hG : Gr [] wr w22 := by rw [hW]; exact (Gr.refl _ _).alloc.alloc
      have hbw : Below w1.heap.size wr w22 := hG.below0 hs.size
      have hk : KeepD wr w22 := hG.keep True.intro
      have sz_w22 : w1.heap.size ≤ wr.heap.size := hs.size
      have Blc : Bx w22 (wr.heap.size) 57 #[.int .i64 te3, .int .i64 fe3] := by rw [hW]; exact ((Bx.new0 _ _ _).alloc _)
      have Blls : Bx w22 (wr.heap.size + 1) 57 #[.int .i64 te3, .int .i64 fe3] := by rw [hW]; exact (Bx.new0 _ _ _)
      have Ap_jo_c := Ojo.ap (g := wr.heap.size) (by omega)
      replace hs := hs.trans hbw
      replace Ojo := Ojo.mono ClC.kept (hG.below0 (Nat.le_refl _))
      replace Oma := Oma.mono IC.kept (hG.below0 (Nat.le_refl _))
      clear hW hG hk hbw
      have hz_w22 : wr.heap.size + 1 < w22.heap.size := Blls.lt
      obtain ⟨css, ho1, ho2, ho3, hown0⟩ := Ojo
      refine wpList_append_lies _ rfl _ _ _ rfl w1.heap.size 57 i0 _ 2 16 Tryz.underlying79 hi hz0 hz1 hz2 rfl (by omega) _ _ css.flatten rfl hown0 ⟨wr.heap.size + 1, 0, none⟩ 1 1 [.int .i64 te3, .int .i64 fe3] rfl rfl Blls.news ?_ (by omega) ?_ ?_ ?_ _ rfl ?_
      · intro u hu; simp only [List.mem_cons, List.mem_nil_iff, or_false] at hu; rcases hu with rfl | rfl <;> rfl
      · unfold maxLen; (try simp only [List.length_append, List.length_cons, List.length_nil]); omega
      · (try simp only [List.length_append, List.length_cons, List.length_nil]); omega
      · exact hs.size
      intro gjo capjo w23 hown1 hgrow hat hlt_
      have hk_ := KeepD.owns hown0 hgrow (by decide)
      have ho := owns_onlyT hown0 hgrow
      replace hs := hs.grown hgrow hs.size (fun k hk => (hown0.lt k hk).1)
      replace Ojo := OwnR.push' ClC.kept ho1 ho2 ho3 (x := (te3, fe3)) rfl rfl (by simp) hown1 hk_
      have Ap_jo_c1 := Ap_jo_c.app hat Blc.lt
      replace Blc := Blc.grown hgrow Ap_jo_c.ne
      replace Ap_jo_c := Ap_jo_c1
      clear Ap_jo_c1
      replace Aq_jo_ma := Aq_jo_ma.app hat Oma (Nat.le_refl _)
      replace Oma := Oma.onlyT IC.kept ho (by decide) (by decide)
      clear hk_ ho ho1 ho2 ho3 hown0 hown1 hgrow hat hlt_ Blls
      go_wp2_with (at_builtin; refine wpList.stop ?_)
      refine ⟨?_⟩
      refine wpList.abs ?_
      intro w24 hW
      have hG : Gr [] w23 w24 := by rw [hW]; exact (Gr.refl _ _).alloc
      have hbw : Below w1.heap.size w23 w24 := hG.below0 hs.size
      have hk : KeepD w23 w24 := hG.keep True.intro
      have sz_w24 : w1.heap.size ≤ w23.heap.size := hs.size
      have nc_w24 : wr.heap.size < w23.heap.size := Blc.lt
      have Blls2 : Bx w24 (w23.heap.size) 3 #[.int .i64 1] := by rw [hW]; exact (Bx.new0 _ _ _)
      replace hs := hs.trans hbw
      replace Blc := hG.bx Blc notMem0
      replace Ojo := Ojo.mono ClC.kept (hG.below0 (Nat.le_refl _))
      replace Oma := Oma.mono IC.kept (hG.below0 (Nat.le_refl _))
      clear hW hG hk hbw
      have hz_w24 : w23.heap.size < w24.heap.size := Blls2.lt
      obtain ⟨css, ho1, ho2, ho3, hown0⟩ := Oma
      refine wpList_append_lies _ rfl _ _ _ rfl w1.heap.size 3 j0 _ 1 8 Tryz.underlying132 hj hy0 hy1 hy2 rfl (by omega) _ _ css.flatten rfl hown0 ⟨w23.heap.size, 0, none⟩ 1 1 [.int .i64 1] rfl rfl Blls2.news ?_ (by omega) ?_ ?_ ?_ _ rfl ?_
      · intro u hu; simp only [List.mem_cons, List.mem_nil_iff, or_false] at hu; rcases hu with rfl <;> rfl
      · unfold maxLen; (try simp only [List.length_append, List.length_cons, List.length_nil]); omega
      · (try simp only [List.length_append, List.length_cons, List.length_nil]); omega
      · exact hs.size
      intro gma capma w25 hown1 hgrow hat hlt_
      have hk_ := KeepD.owns hown0 hgrow (by decide)
      have ho := owns_onlyT hown0 hgrow
      replace hs := hs.grown hgrow hs.size (fun k hk => (hown0.lt k hk).1)
      replace Oma := OwnR.push' IC.kept ho1 ho2 ho3 (x := 1) rfl rfl (by simp) hown1 hk_
      replace Blc := Blc.only ho (by decide)
      replace Aq_jo_ma := (Aq_jo_ma.symm.app hat Ojo (Nat.le_refl _)).symm
      replace Ojo := Ojo.onlyT ClC.kept ho (by decide) (by decide)
      clear hk_ ho ho1 ho2 ho3 hown0 hown1 hgrow hat hlt_ Blls2
      rw [show stJ (pavL (L.take k)) ++ [(te3, fe3)] = stJ ([clAt L k] :: pavL (L.take k)) from stJ_first Hte3.out Hfe3.out] at Ojo
      rw [show stM (pavL (L.take k)) ++ [1] = stM ([clAt L k] :: pavL (L.take k)) from stM_first] at Oma
      go_wp2
      go_loopw [5, 6, 9] (fun s5 s6 s9 wq => ∃ (a : List Cls) (r : List (List Cls)) (N : Nat), N ≤ 16 ∧ 1 ≤ N ∧ s9 = .int .i64 N ∧ Hid (r.length + 1 = N) ∧ Hid (pavG a r = pavL (L.take (k + 1))) ∧ Hid (segOk a ∧ chain r) ∧ Hid (flatR (a :: r) = L.take (k + 1)) ∧ Below w1.heap.size w1 wq ∧ OwnR w1.heap.size 57 2 ClC wq s5 (stJ (a :: r)) ∧ OwnR w1.heap.size 3 1 IC wq s6 (stM (a :: r)) ∧ Ap2 s5.ownBlock s6.ownBlock) (fun s5 s6 s9 _ => (intOf s9).toNat)
      case atStart => exact ⟨[clAt L k], pavL (L.take k), (pavL (L.take k)).length + 1, by omega, by omega, by simp [stJ_len], Lib.hid rfl, Lib.hid (by rw [take_cl (by omega), pavL_snoc]), Lib.hid ⟨seg_one (by have := HOK.out _ (List.mem_of_getElem? (clAt_some (show k < L.length by omega))); unfold ClOk at this; omega), (pav_ok (okT_take HOK.out k)).1⟩, Lib.hid (by rw [flatR_cons, (pav_ok (okT_take HOK.out k)).2, take_cl (by omega)]), hs, Ojo, Oma, Aq_jo_ma⟩
      case round =>
        clear hs Ojo Oma Aq_jo_ma
        obtain ⟨a, r, N, N16, N1, rfl, HN, HG, HC, HF, hs, Ojo, Oma, Aq_jo_ma⟩ := hrel
        have AB := seg_bd (l := L.take (k + 1)) (by rw [List.length_take]; omega) (fun c hc => HOK.out c (List.mem_of_mem_take hc)) HF.out (a := a) (by simp) HC.out.1.1
        obtain ⟨ta, HTA⟩ : ∃ z : Int, z = (sumC a).1 := ⟨_, rfl⟩
        rw [← HTA] at AB
        replace HTA := Lib.hid HTA.symm
        obtain ⟨fa, HFA⟩ : ∃ z : Int, z = (sumC a).2 := ⟨_, rfl⟩
        rw [← HFA] at AB
        replace HFA := Lib.hid HFA.symm
        obtain ⟨ma, HMA⟩ : ∃ z : Int, z = (a.length : Int) := ⟨_, rfl⟩
        have AB2 : 1 ≤ ma ∧ ma ≤ 16 := by rw [HMA]; omega
        replace HMA := Lib.hid HMA.symm
        obtain ⟨AB1, AB2_, AB3, AB4, -, -⟩ := AB
        obtain ⟨AB5, AB6⟩ := AB2
        rcases r with _ | ⟨b, r⟩
        · have hN1 : N = 1 := by have := HN.out; simp at this; omega
          have n1a : N ≤ 1 := by omega
          clear hN1
          obtain ⟨gjo, cjo, ej, -, -, -⟩ := Ojo.openG (by rw [stJ_len]; simp)
          subst ej
          obtain ⟨gma, cma, em, -, -, -⟩ := Oma.openG (by rw [stM_len]; simp)
          subst em
          go_upto_region 11 with fail
          have q4 : ¬ (1 < N) := (by omega)
          have q4d : ((1 : Int) < (N : Int)) = False := eq_false (by omega)
          refine U_region (S := fun w' => True) (by kernel_rfl) 18 ?_
          refine AnyU.abs ?_
          intro w46 hW
          have hb : Below wr.heap.size wr w46 := by rw [hW]; exact bDrew _
          replace hs := bStep hs hb
          replace Ojo := Ojo.mono ClC.kept hb
          replace Oma := Oma.mono IC.kept hb
          clear hb hW
          have hH := (show True from True.intro)
          refine U_tk 0 33 ?_ ?_ hH ?_
          rotate_left
          · (intro w hSw; (try dsimp only at hSw); go_simp; try with_reducible rfl)
          simp only [LY]
          refine U_tk 1 34 ?_ ?_ hH ?_
          rotate_left
          · (intro w hSw; (try dsimp only at hSw); go_simp; try with_reducible rfl)
          simp only [LY]
          refine U_tk 2 35 ?_ ?_ hH ?_
          rotate_left
          · (intro w hSw; (try dsimp only at hSw); go_simp; try with_reducible rfl)
          simp only [LY]
          refine U_tu 3 36 hH ?_
          simp only [LY]
          refine U_tu 4 37 hH ?_
          simp only [LY]
          refine U_tu 5 38 hH ?_
          simp only [LY]
          refine U_tu 6 39 hH ?_
          simp only [LY]
          refine U_tu 7 40 hH ?_
          simp only [LY]
          refine U_tu 9 42 hH ?_
          simp only [LY]
          refine U_tu 10 43 hH ?_
          simp only [LY]
          refine U_tu 11 44 hH ?_
          simp only [LY]
          refine U_tu 12 45 hH ?_
          simp only [LY]
          refine U_tu 13 46 hH ?_
          simp only [LY]
          clear hH
          refine U_one (i := 8) (by kernel_rfl) rfl (fun K hK => ?_)
          go_simp
          refine hK.out _ _ True.intro (fun hH => ?_)
          clear hK K
          try simp only [LY]
          clear hH
          refine U_one (i := 14) (by kernel_rfl) rfl (fun K hK => ?_)
          go_simp
          refine hK.out _ _ True.intro (fun hH => ?_)
          clear hK K
          try simp only [LY]
          clear hH
          refine U_one (i := 15) (by kernel_rfl) rfl (fun K hK => ?_)
          go_simp
          refine hK.out _ _ True.intro (fun hH => ?_)
          clear hK K
          try simp only [LY]
          refine U_tu 16 49 hH ?_
          simp only [LY]
          refine U_tk 17 50 ?_ ?_ hH ?_
          rotate_left
          · (intro w hSw; (try dsimp only at hSw); go_simp; try with_reducible rfl)
          simp only [LY]
          clear hH
          refine U_endN (by kernel_rfl) ?_
          have HE := (show [a] = pavL (L.take (k + 1)) from HG.out)
          have Ojo2 : OwnR w1.heap.size 57 2 ClC w46 (.slice (some ⟨gjo, 0, none⟩) (stJ [a]).length cjo) (stJ (pavL (L.take (k + 1)))) := by rw [← HE]; exact Ojo
          have Oma2 : OwnR w1.heap.size 3 1 IC w46 (.slice (some ⟨gma, 0, none⟩) (stM [a]).length cma) (stM (pavL (L.take (k + 1)))) := by rw [← HE]; exact Oma
          clear Ojo Oma HE
          have Ojo := Ojo2
          have Oma := Oma2
          clear Ojo2 Oma2
          go_wp2
          go_roundw
          case rel => exact ⟨k + 1, by omega, by go_num, hs, Ojo, Oma, Aq_jo_ma⟩
          all_goals first | (simp [intOf]; done) | (simp [intOf]; omega)
        · have AC := seg_bd (l := L.take (k + 1)) (by rw [List.length_take]; omega) (fun c hc => HOK.out c (List.mem_of_mem_take hc)) HF.out (a := b) (by simp) HC.out.2.1.1
          obtain ⟨tb, HTB⟩ : ∃ z : Int, z = (sumC b).1 := ⟨_, rfl⟩
          rw [← HTB] at AC
          replace HTB := Lib.hid HTB.symm
          obtain ⟨fb, HFB⟩ : ∃ z : Int, z = (sumC b).2 := ⟨_, rfl⟩
          rw [← HFB] at AC
          replace HFB := Lib.hid HFB.symm
          obtain ⟨mb, HMB⟩ : ∃ z : Int, z = (b.length : Int) := ⟨_, rfl⟩
          have AC2 : 1 ≤ mb ∧ mb ≤ 16 := by rw [HMB]; omega
          replace HMB := Lib.hid HMB.symm
          obtain ⟨AC1, AC2_, AC3, AC4, -, -⟩ := AC
          obtain ⟨AC5, AC6⟩ := AC2
          have HSB := Lib.hid (show shQ (tb, fb) = shQ (sumC b) by rw [← HTB.out, ← HFB.out])
          have HSA := Lib.hid (show shQ (ta, fa) = shQ (sumC a) by rw [← HTA.out, ← HFA.out])
          obtain ⟨m, HM⟩ : ∃ m, r.length = m := ⟨_, rfl⟩
          have m1 : N ≤ m + 2 ∧ m + 2 ≤ N := by have := HN.out; simp at this; omega
          obtain ⟨m1a, m1b⟩ := m1
          replace HM := Lib.hid HM
          obtain ⟨gjo, cjo, ej, lowj, capj, -⟩ := Ojo.openG (by rw [stJ_len]; simp)
          subst ej
          have Vjo : OwnG w1.heap.size 57 2 ClC cjo wr gjo (stJ (a :: b :: r)) := Ojo
          obtain ⟨gma, cma, em, lowm, capm, -⟩ := Oma.openG (by rw [stM_len]; simp)
          subst em
          have Vma : OwnG w1.heap.size 3 1 IC cma wr gma (stM (a :: b :: r)) := Oma
          clear Ojo Oma
          have ngjm : gma ≠ gjo := fun e => Aq_jo_ma gjo rfl (congrArg some e)
          rw [stJ2_len HM.out] at capj ⊢
          rw [stM2_len HM.out] at capm ⊢
          clear HN
          have SAa := IntWalk.i64_in ((N : Int) - 2) (by omega)
          have SAb : (0 : Int) ≤ (N : Int) - 2 := by omega
          have SAc : ((N : Int) - 2).toNat = m := by omega
          have SAd : (N : Int) - 2 < ((m : Int) + 2) := by omega
          have SAg : (2 : Int) ≤ (N : Int) := by omega
          have SAe : (N : Int) - 2 ≤ (cjo : Int) := by omega
          have SAf : (N : Int) - 2 ≤ (cma : Int) := by omega
          have SBa := IntWalk.i64_in ((N : Int) - 1) (by omega)
          have SBb : (0 : Int) ≤ (N : Int) - 1 := by omega
          have SBc : ((N : Int) - 1).toNat = m + 1 := by omega
          have SBd : (N : Int) - 1 < ((m : Int) + 2) := by omega
          have SBg : (1 : Int) ≤ (N : Int) := by omega
          have SBe : (N : Int) - 1 ≤ (cjo : Int) := by omega
          have SBf : (N : Int) - 1 ≤ (cma : Int) := by omega
          go_upto_region 11 with fail
          have q4 : 1 < N := (by omega)
          have q4d : ((1 : Int) < (N : Int)) = True := eq_true (by omega)
          obtain ⟨Ee50, Ee51⟩ := ownCl_at Vjo (stJ_at HM.out).1
          try simp only [HTB.out, HFB.out, HTA.out, HFA.out] at Ee50 Ee51
          obtain ⟨Ee70, Ee71⟩ := ownCl_at Vjo (stJ_at HM.out).2
          try simp only [HTB.out, HFB.out, HTA.out, HFA.out] at Ee70 Ee71
          obtain ⟨sg9, Hsg9⟩ : ∃ s : Int, s = sgQ ((shQ (tb, fb)) - (shQ (ta, fa))) := ⟨_, rfl⟩
          replace Hsg9 := Lib.hid Hsg9
          refine U_region (S := fun w' => w'.cell? ⟨gjo, m * 2, none⟩ = some (.int .i64 tb) ∧ w'.cell? ⟨gjo, m * 2 + 1, none⟩ = some (.int .i64 fb) ∧ w'.cell? ⟨gjo, (m + 1) * 2, none⟩ = some (.int .i64 ta) ∧ w'.cell? ⟨gjo, (m + 1) * 2 + 1, none⟩ = some (.int .i64 fa)) (by kernel_rfl) 18 ?_
          refine AnyU.abs ?_
          intro w46 hW
          have hb : Below wr.heap.size wr w46 := by rw [hW]; exact bDrew _
          replace hs := bStep hs hb
          replace Vjo := OwnG.mono ClC.kept Vjo hb
          replace Vma := OwnG.mono IC.kept Vma hb
          replace Ee50 := cellK Ee50 hb
          replace Ee51 := cellK Ee51 hb
          replace Ee70 := cellK Ee70 hb
          replace Ee71 := cellK Ee71 hb
          clear hb hW
          have hH := (show w46.cell? ⟨gjo, m * 2, none⟩ = some (.int .i64 tb) ∧ w46.cell? ⟨gjo, m * 2 + 1, none⟩ = some (.int .i64 fb) ∧ w46.cell? ⟨gjo, (m + 1) * 2, none⟩ = some (.int .i64 ta) ∧ w46.cell? ⟨gjo, (m + 1) * 2 + 1, none⟩ = some (.int .i64 fa) from ⟨Ee50, Ee51, Ee70, Ee71⟩)
          refine U_tk 0 33 ?_ ?_ hH ?_
          rotate_left
          · (intro w hSw; (try dsimp only at hSw); go_simp; try with_reducible rfl)
          simp only [LY]
          refine U_tk 1 34 ?_ ?_ hH ?_
          rotate_left
          · (intro w hSw; (try dsimp only at hSw); go_simp; try with_reducible rfl)
          simp only [LY]
          refine U_tk 2 35 ?_ ?_ hH ?_
          rotate_left
          · (intro w hSw; (try dsimp only at hSw); go_simp; try with_reducible rfl)
          simp only [LY]
          refine U_tk 3 36 ?_ ?_ hH ?_
          rotate_left
          · (intro w hSw; (try dsimp only at hSw); go_simp; try with_reducible rfl)
          simp only [LY]
          refine U_tk 4 37 ?_ ?_ hH ?_
          rotate_left
          · (intro w hSw; (try dsimp only at hSw); go_simp; try with_reducible rfl)
          simp only [LY]
          refine U_tk 5 38 ?_ ?_ hH ?_
          rotate_left
          · (intro w hSw; (try dsimp only at hSw); go_simp; try with_reducible rfl)
          simp only [LY]
          refine U_tk 6 39 ?_ ?_ hH ?_
          rotate_left
          · (intro w hSw; (try dsimp only at hSw); go_simp; try with_reducible rfl)
          simp only [LY]
          refine U_tk 7 40 ?_ ?_ hH ?_
          rotate_left
          · (intro w hSw; (try dsimp only at hSw); go_simp; try with_reducible rfl)
          simp only [LY]
          refine U_tk 9 42 ?_ ?_ hH ?_
          rotate_left
          · (intro w hSw; (try dsimp only at hSw); go_simp; try with_reducible rfl)
          simp only [LY]
          refine U_tk 10 43 ?_ ?_ hH ?_
          rotate_left
          · (intro w hSw; (try dsimp only at hSw); go_simp; try with_reducible rfl)
          simp only [LY]
          refine U_tk 11 44 ?_ ?_ hH ?_
          rotate_left
          · (intro w hSw; (try dsimp only at hSw); go_simp; try with_reducible rfl)
          simp only [LY]
          refine U_tk 12 45 ?_ ?_ hH ?_
          rotate_left
          · (intro w hSw; (try dsimp only at hSw); go_simp; try with_reducible rfl)
          simp only [LY]
          refine U_tk 13 46 ?_ ?_ hH ?_
          rotate_left
          · (intro w hSw; (try dsimp only at hSw); go_simp; try with_reducible rfl)
          simp only [LY]
          clear hH
          refine U_one (i := 8) (by kernel_rfl) rfl (fun K hK => ?_)
          go_simp
          (with_reducible refine (cl_share (t := tb) (f := fb) _ (by omega) (by omega) (by omega) (by omega)).mono ?_)
          rintro e w47 ⟨_, rfl, h6, hb⟩
          obtain ⟨sh6, ah6, nh6, ch6, Ah6, Nh6, Ch6, rfl⟩ := h6.shape
          replace hs := bStep hs hb
          replace Vjo := OwnG.mono ClC.kept Vjo hb
          replace Vma := OwnG.mono IC.kept Vma hb
          replace Ee50 := cellK Ee50 hb
          replace Ee51 := cellK Ee51 hb
          replace Ee70 := cellK Ee70 hb
          replace Ee71 := cellK Ee71 hb
          clear hb
          try go_wp2_with fail
          refine hK.out _ _ ⟨Ee50, Ee51, Ee70, Ee71⟩ (fun hH => ?_)
          clear hK K
          try simp only [LY]
          clear hH
          refine U_one (i := 14) (by kernel_rfl) rfl (fun K hK => ?_)
          go_simp
          (with_reducible refine (cl_share (t := ta) (f := fa) _ (by omega) (by omega) (by omega) (by omega)).mono ?_)
          rintro e w48 ⟨_, rfl, h8, hb⟩
          obtain ⟨sh8, ah8, nh8, ch8, Ah8, Nh8, Ch8, rfl⟩ := h8.shape
          replace hs := bStep hs hb
          replace h6 := h6.mono hb
          replace Vjo := OwnG.mono ClC.kept Vjo hb
          replace Vma := OwnG.mono IC.kept Vma hb
          replace Ee50 := cellK Ee50 hb
          replace Ee51 := cellK Ee51 hb
          replace Ee70 := cellK Ee70 hb
          replace Ee71 := cellK Ee71 hb
          clear hb
          try go_wp2_with fail
          refine hK.out _ _ ⟨Ee50, Ee51, Ee70, Ee71⟩ (fun hH => ?_)
          clear hK K
          try simp only [LY]
          clear hH
          refine U_one (i := 15) (by kernel_rfl) rfl (fun K hK => ?_)
          go_simp
          (with_reducible refine (pCmp h6 h8 (SzQ.fit (szQ_frac (by omega) (by omega) (by omega))) (SzQ.fit (szQ_frac (by omega) (by omega) (by omega)))).mono ?_)
          rintro e w49 ⟨rfl, hb⟩
          replace hs := bStep hs hb
          replace h6 := h6.mono hb
          replace h8 := h8.mono hb
          replace Vjo := OwnG.mono ClC.kept Vjo hb
          replace Vma := OwnG.mono IC.kept Vma hb
          replace Ee50 := cellK Ee50 hb
          replace Ee51 := cellK Ee51 hb
          replace Ee70 := cellK Ee70 hb
          replace Ee71 := cellK Ee71 hb
          clear hb
          rw [← Hsg9.out]
          try go_wp2_with fail
          refine hK.out _ _ ⟨Ee50, Ee51, Ee70, Ee71⟩ (fun hH => ?_)
          clear hK K
          try simp only [LY]
          refine U_tk 16 49 ?_ ?_ hH ?_
          rotate_left
          · (intro w hSw; (try dsimp only at hSw); go_simp; try with_reducible rfl)
          simp only [LY]
          refine U_tk 17 50 ?_ ?_ hH ?_
          rotate_left
          · (intro w hSw; (try dsimp only at hSw); go_simp; try with_reducible rfl)
          simp only [LY]
          clear hH
          refine U_endN (by kernel_rfl) ?_
          clear Ee50 Ee51 Ee70 Ee71
          by_cases q10 : shQ (ta, fa) < shQ (tb, fb)
          · have q10_ : 0 < sg9 := by have h := sq_gt (shQ (tb, fb)) (shQ (ta, fa)); rw [← Hsg9.out] at h; exact h.2 q10
            have q10H := Lib.hid q10
            clear q10
            have q10d : decide (0 < sg9) = true := decide_eq_true q10_
            go_upto_region 13 with fail
            obtain ⟨Ee110, Ee111⟩ := ownCl_at Vjo (stJ_at HM.out).1
            try simp only [HTB.out, HFB.out, HTA.out, HFA.out] at Ee110 Ee111
            obtain ⟨Ee120, Ee121⟩ := ownCl_at Vjo (stJ_at HM.out).2
            try simp only [HTB.out, HFB.out, HTA.out, HFA.out] at Ee120 Ee121
            refine U_region (S := fun w' => w'.cell? ⟨gjo, m * 2, none⟩ = some (.int .i64 tb) ∧ w'.cell? ⟨gjo, m * 2 + 1, none⟩ = some (.int .i64 fb) ∧ w'.cell? ⟨gjo, (m + 1) * 2, none⟩ = some (.int .i64 ta) ∧ w'.cell? ⟨gjo, (m + 1) * 2 + 1, none⟩ = some (.int .i64 fa)) (by kernel_rfl) 15 ?_
            refine AnyU.abs ?_
            intro w50 hW
            have hb : Below w49.heap.size w49 w50 := by rw [hW]; exact bDrew _
            replace hs := bStep hs hb
            replace h6 := h6.mono hb
            replace h8 := h8.mono hb
            replace Vjo := OwnG.mono ClC.kept Vjo hb
            replace Vma := OwnG.mono IC.kept Vma hb
            replace Ee110 := cellK Ee110 hb
            replace Ee111 := cellK Ee111 hb
            replace Ee120 := cellK Ee120 hb
            replace Ee121 := cellK Ee121 hb
            clear hb hW
            have hH := (show w50.cell? ⟨gjo, m * 2, none⟩ = some (.int .i64 tb) ∧ w50.cell? ⟨gjo, m * 2 + 1, none⟩ = some (.int .i64 fb) ∧ w50.cell? ⟨gjo, (m + 1) * 2, none⟩ = some (.int .i64 ta) ∧ w50.cell? ⟨gjo, (m + 1) * 2 + 1, none⟩ = some (.int .i64 fa) from ⟨Ee110, Ee111, Ee120, Ee121⟩)
            refine U_tt 0 ?_ ?_ hH ?_
            rotate_left
            · (intro w hSw; (try dsimp only at hSw); go_simp; try with_reducible rfl)
            try simp only [LY]
            refine U_tt 1 ?_ ?_ hH ?_
            rotate_left
            · (intro w hSw; (try dsimp only at hSw); go_simp; try with_reducible rfl)
            try simp only [LY]
            refine U_tt 2 ?_ ?_ hH ?_
            rotate_left
            · (intro w hSw; (try dsimp only at hSw); go_simp; try with_reducible rfl)
            try simp only [LY]
            refine U_tt 3 ?_ ?_ hH ?_
            rotate_left
            · (intro w hSw; (try dsimp only at hSw); go_simp; try with_reducible rfl)
            try simp only [LY]
            refine U_tt 4 ?_ ?_ hH ?_
            rotate_left
            · (intro w hSw; (try dsimp only at hSw); go_simp; try with_reducible rfl)
            try simp only [LY]
            refine U_tt 5 ?_ ?_ hH ?_
            rotate_left
            · (intro w hSw; (try dsimp only at hSw); go_simp; try with_reducible rfl)
            try simp only [LY]
            refine U_tt 6 ?_ ?_ hH ?_
            rotate_left
            · (intro w hSw; (try dsimp only at hSw); go_simp; try with_reducible rfl)
            try simp only [LY]
            refine U_tt 7 ?_ ?_ hH ?_
            rotate_left
            · (intro w hSw; (try dsimp only at hSw); go_simp; try with_reducible rfl)
            try simp only [LY]
            refine U_tt 8 ?_ ?_ hH ?_
            rotate_left
            · (intro w hSw; (try dsimp only at hSw); go_simp; try with_reducible rfl)
            try simp only [LY]
            refine U_tt 9 ?_ ?_ hH ?_
            rotate_left
            · (intro w hSw; (try dsimp only at hSw); go_simp; try with_reducible rfl)
            try simp only [LY]
            refine U_tt 10 ?_ ?_ hH ?_
            rotate_left
            · (intro w hSw; (try dsimp only at hSw); go_simp; try with_reducible rfl)
            try simp only [LY]
            refine U_tt 11 ?_ ?_ hH ?_
            rotate_left
            · (intro w hSw; (try dsimp only at hSw); go_simp; try with_reducible rfl)
            try simp only [LY]
            refine U_tt 12 ?_ ?_ hH ?_
            rotate_left
            · (intro w hSw; (try dsimp only at hSw); go_simp; try with_reducible rfl)
            try simp only [LY]
            refine U_takeC [13, 14, 15] (i := 13) (v := ?_) rfl (by kernel_rfl) (by kernel_rfl) (by kernel_rfl) (by kernel_rfl) (fun _ _ _ h => h) (Or.inl ⟨by rfl, ?_⟩) hH ?_
            rotate_left
            · intro w hSw
              try dsimp only at hSw
              go_simp
              try with_reducible rfl
            try simp only [LY]
            refine U_tt 14 ?_ ?_ hH ?_
            rotate_left
            · (intro w hSw; (try dsimp only at hSw); go_simp; try with_reducible rfl)
            try simp only [LY]
            clear hH
            have fVjo := Vjo.free
            have LVjo : gjo < w50.heap.size := Vjo.lt
            refine U_last (by kernel_rfl) rfl (by kernel_rfl) (fun K hK => ?_)
            go_simp
            refine hK.out _ _ ?_
            clear hK K
            intro w51 hW
            try rw [IntWalk.i64_in (tb + ta) (by omega)] at hW
            have hG : Gr [gjo] w50 w51 := by rw [hW]; exact (Gr.refl _ _).set
            have hsz := hs.size
            have hbw : Below w1.heap.size w50 w51 := hG.below1 hs.size (by first | omega | assumption)
            have hk : KeepD w50 w51 := hG.keep ⟨⟨_, Vjo.ty, by decide⟩, True.intro⟩
            have V1jo : OwnG w1.heap.size 57 2 ClC cjo w51 (gjo) ((stJ (a :: b :: r)).set m (tb + ta, (sumC b).2)) := by rw [hW]; exact (ownCl_put0 Vjo (stJ_at HM.out).1 (by decide)) ((Gr.refl _ _))
            rw [show (stJ (a :: b :: r)).set m (tb + ta, (sumC b).2) = stJ1 a b r by rw [← HTB.out, ← HTA.out]; exact stJ_set HM.out] at V1jo
            replace hs := hs.trans hbw
            replace Vma := OwnG.gr IC.kept Vma hG (notMem1 (by omega)) hk
            replace Vjo := V1jo
            clear V1jo
            replace h6 := h6.keep hk
            replace h8 := h8.keep hk
            clear hW hG hk hbw hsz
            try simp only [LY]
            clear Ee110 Ee111 Ee120 Ee121
            go_upto_region 14 with fail
            obtain ⟨Ee130, Ee131⟩ := ownCl_at Vjo (stJ1_at HM.out).1
            try simp only [HTB.out, HFB.out, HTA.out, HFA.out] at Ee130 Ee131
            obtain ⟨Ee140, Ee141⟩ := ownCl_at Vjo (stJ1_at HM.out).2
            try simp only [HTB.out, HFB.out, HTA.out, HFA.out] at Ee140 Ee141
            refine U_region (S := fun w' => w'.cell? ⟨gjo, m * 2, none⟩ = some (.int .i64 (tb + ta)) ∧ w'.cell? ⟨gjo, m * 2 + 1, none⟩ = some (.int .i64 fb) ∧ w'.cell? ⟨gjo, (m + 1) * 2, none⟩ = some (.int .i64 ta) ∧ w'.cell? ⟨gjo, (m + 1) * 2 + 1, none⟩ = some (.int .i64 fa)) (by kernel_rfl) 15 ?_
            refine AnyU.abs ?_
            intro w52 hW
            have hb : Below w51.heap.size w51 w52 := by rw [hW]; exact bDrew _
            replace hs := bStep hs hb
            replace h6 := h6.mono hb
            replace h8 := h8.mono hb
            replace Vjo := OwnG.mono ClC.kept Vjo hb
            replace Vma := OwnG.mono IC.kept Vma hb
            replace Ee130 := cellK Ee130 hb
            replace Ee131 := cellK Ee131 hb
            replace Ee140 := cellK Ee140 hb
            replace Ee141 := cellK Ee141 hb
            clear hb hW
            have hH := (show w52.cell? ⟨gjo, m * 2, none⟩ = some (.int .i64 (tb + ta)) ∧ w52.cell? ⟨gjo, m * 2 + 1, none⟩ = some (.int .i64 fb) ∧ w52.cell? ⟨gjo, (m + 1) * 2, none⟩ = some (.int .i64 ta) ∧ w52.cell? ⟨gjo, (m + 1) * 2 + 1, none⟩ = some (.int .i64 fa) from ⟨Ee130, Ee131, Ee140, Ee141⟩)
            refine U_tt 0 ?_ ?_ hH ?_
            rotate_left
            · (intro w hSw; (try dsimp only at hSw); go_simp; try with_reducible rfl)
            try simp only [LY]
            refine U_tt 1 ?_ ?_ hH ?_
            rotate_left
            · (intro w hSw; (try dsimp only at hSw); go_simp; try with_reducible rfl)
            try simp only [LY]
            refine U_tt 2 ?_ ?_ hH ?_
            rotate_left
            · (intro w hSw; (try dsimp only at hSw); go_simp; try with_reducible rfl)
            try simp only [LY]
            refine U_tt 3 ?_ ?_ hH ?_
            rotate_left
            · (intro w hSw; (try dsimp only at hSw); go_simp; try with_reducible rfl)
            try simp only [LY]
            refine U_tt 4 ?_ ?_ hH ?_
            rotate_left
            · (intro w hSw; (try dsimp only at hSw); go_simp; try with_reducible rfl)
            try simp only [LY]
            refine U_tt 5 ?_ ?_ hH ?_
            rotate_left
            · (intro w hSw; (try dsimp only at hSw); go_simp; try with_reducible rfl)
            try simp only [LY]
            refine U_tt 6 ?_ ?_ hH ?_
            rotate_left
            · (intro w hSw; (try dsimp only at hSw); go_simp; try with_reducible rfl)
            try simp only [LY]
            refine U_tt 7 ?_ ?_ hH ?_
            rotate_left
            · (intro w hSw; (try dsimp only at hSw); go_simp; try with_reducible rfl)
            try simp only [LY]
            refine U_tt 8 ?_ ?_ hH ?_
            rotate_left
            · (intro w hSw; (try dsimp only at hSw); go_simp; try with_reducible rfl)
            try simp only [LY]
            refine U_tt 9 ?_ ?_ hH ?_
            rotate_left
            · (intro w hSw; (try dsimp only at hSw); go_simp; try with_reducible rfl)
            try simp only [LY]
            refine U_tt 10 ?_ ?_ hH ?_
            rotate_left
            · (intro w hSw; (try dsimp only at hSw); go_simp; try with_reducible rfl)
            try simp only [LY]
            refine U_tt 11 ?_ ?_ hH ?_
            rotate_left
            · (intro w hSw; (try dsimp only at hSw); go_simp; try with_reducible rfl)
            try simp only [LY]
            refine U_tt 12 ?_ ?_ hH ?_
            rotate_left
            · (intro w hSw; (try dsimp only at hSw); go_simp; try with_reducible rfl)
            try simp only [LY]
            refine U_takeC [13, 14, 15] (i := 13) (v := ?_) rfl (by kernel_rfl) (by kernel_rfl) (by kernel_rfl) (by kernel_rfl) (fun _ _ _ h => h) (Or.inl ⟨by rfl, ?_⟩) hH ?_
            rotate_left
            · intro w hSw
              try dsimp only at hSw
              go_simp
              try with_reducible rfl
            try simp only [LY]
            refine U_tt 14 ?_ ?_ hH ?_
            rotate_left
            · (intro w hSw; (try dsimp only at hSw); go_simp; try with_reducible rfl)
            try simp only [LY]
            clear hH
            have fVjo := Vjo.free
            have LVjo : gjo < w52.heap.size := Vjo.lt
            refine U_last (by kernel_rfl) rfl (by kernel_rfl) (fun K hK => ?_)
            go_simp
            refine hK.out _ _ ?_
            clear hK K
            intro w53 hW
            try rw [IntWalk.i64_in (fb + fa) (by omega)] at hW
            have hG : Gr [gjo] w52 w53 := by rw [hW]; exact (Gr.refl _ _).set
            have hsz := hs.size
            have hbw : Below w1.heap.size w52 w53 := hG.below1 hs.size (by first | omega | assumption)
            have hk : KeepD w52 w53 := hG.keep ⟨⟨_, Vjo.ty, by decide⟩, True.intro⟩
            have V1jo : OwnG w1.heap.size 57 2 ClC cjo w53 (gjo) ((stJ1 a b r).set m ((sumC b).1 + (sumC a).1, fb + fa)) := by rw [hW]; exact (ownCl_put1 Vjo (stJ1_at HM.out).1 (by decide)) ((Gr.refl _ _))
            rw [show (stJ1 a b r).set m ((sumC b).1 + (sumC a).1, fb + fa) = stJ2 a b r by rw [← HFB.out, ← HFA.out]; exact stJ1_set HM.out] at V1jo
            replace hs := hs.trans hbw
            replace Vma := OwnG.gr IC.kept Vma hG (notMem1 (by omega)) hk
            replace Vjo := V1jo
            clear V1jo
            replace h6 := h6.keep hk
            replace h8 := h8.keep hk
            clear hW hG hk hbw hsz
            try simp only [LY]
            clear Ee130 Ee131 Ee140 Ee141
            go_upto_region 15 with fail
            have Ee150 := ownI_at Vma (stM_at HM.out).1
            rw [HMB.out] at Ee150
            have Ee160 := ownI_at Vma (stM_at HM.out).2
            rw [HMA.out] at Ee160
            refine U_region (S := fun w' => w'.cell? ⟨gma, m, none⟩ = some (.int .i64 mb) ∧ w'.cell? ⟨gma, (m + 1), none⟩ = some (.int .i64 ma)) (by kernel_rfl) 12 ?_
            refine AnyU.abs ?_
            intro w54 hW
            have hb : Below w53.heap.size w53 w54 := by rw [hW]; exact bDrew _
            replace hs := bStep hs hb
            replace h6 := h6.mono hb
            replace h8 := h8.mono hb
            replace Vjo := OwnG.mono ClC.kept Vjo hb
            replace Vma := OwnG.mono IC.kept Vma hb
            replace Ee150 := cellK Ee150 hb
            replace Ee160 := cellK Ee160 hb
            clear hb hW
            have hH := (show w54.cell? ⟨gma, m, none⟩ = some (.int .i64 mb) ∧ w54.cell? ⟨gma, (m + 1), none⟩ = some (.int .i64 ma) from ⟨Ee150, Ee160⟩)
            refine U_tt 0 ?_ ?_ hH ?_
            rotate_left
            · (intro w hSw; (try dsimp only at hSw); go_simp; try with_reducible rfl)
            try simp only [LY]
            refine U_tt 1 ?_ ?_ hH ?_
            rotate_left
            · (intro w hSw; (try dsimp only at hSw); go_simp; try with_reducible rfl)
            try simp only [LY]
            refine U_tt 2 ?_ ?_ hH ?_
            rotate_left
            · (intro w hSw; (try dsimp only at hSw); go_simp; try with_reducible rfl)
            try simp only [LY]
            refine U_tt 3 ?_ ?_ hH ?_
            rotate_left
            · (intro w hSw; (try dsimp only at hSw); go_simp; try with_reducible rfl)
            try simp only [LY]
            refine U_tt 4 ?_ ?_ hH ?_
            rotate_left
            · (intro w hSw; (try dsimp only at hSw); go_simp; try with_reducible rfl)
            try simp only [LY]
            refine U_tt 5 ?_ ?_ hH ?_
            rotate_left
            · (intro w hSw; (try dsimp only at hSw); go_simp; try with_reducible rfl)
            try simp only [LY]
            refine U_tt 6 ?_ ?_ hH ?_
            rotate_left
            · (intro w hSw; (try dsimp only at hSw); go_simp; try with_reducible rfl)
            try simp only [LY]
            refine U_tt 7 ?_ ?_ hH ?_
            rotate_left
            · (intro w hSw; (try dsimp only at hSw); go_simp; try with_reducible rfl)
            try simp only [LY]
            refine U_tt 8 ?_ ?_ hH ?_
            rotate_left
            · (intro w hSw; (try dsimp only at hSw); go_simp; try with_reducible rfl)
            try simp only [LY]
            refine U_tt 9 ?_ ?_ hH ?_
            rotate_left
            · (intro w hSw; (try dsimp only at hSw); go_simp; try with_reducible rfl)
            try simp only [LY]
            refine U_tt 10 ?_ ?_ hH ?_
            rotate_left
            · (intro w hSw; (try dsimp only at hSw); go_simp; try with_reducible rfl)
            try simp only [LY]
            refine U_tt 11 ?_ ?_ hH ?_
            rotate_left
            · (intro w hSw; (try dsimp only at hSw); go_simp; try with_reducible rfl)
            try simp only [LY]
            clear hH
            have fVma := Vma.free
            have LVma : gma < w54.heap.size := Vma.lt
            refine U_last (by kernel_rfl) rfl (by kernel_rfl) (fun K hK => ?_)
            go_simp
            refine hK.out _ _ ?_
            clear hK K
            intro w55 hW
            try rw [IntWalk.i64_in (mb + ma) (by omega)] at hW
            have hG : Gr [gma] w54 w55 := by rw [hW]; exact (Gr.refl _ _).set
            have hsz := hs.size
            have hbw : Below w1.heap.size w54 w55 := hG.below1 hs.size (by first | omega | assumption)
            have hk : KeepD w54 w55 := hG.keep ⟨⟨_, Vma.ty, by decide⟩, True.intro⟩
            have V1ma : OwnG w1.heap.size 3 1 IC cma w55 (gma) ((stM (a :: b :: r)).set m (mb + ma)) := by rw [hW]; exact (ownI_put Vma (stM_at HM.out).1 (by decide)) ((Gr.refl _ _))
            rw [show (stM (a :: b :: r)).set m (mb + ma) = stM1 a b r by rw [← HMB.out, ← HMA.out]; exact stM_set HM.out] at V1ma
            replace hs := hs.trans hbw
            replace Vjo := OwnG.gr ClC.kept Vjo hG (notMem1 (by omega)) hk
            replace Vma := V1ma
            clear V1ma
            replace h6 := h6.keep hk
            replace h8 := h8.keep hk
            clear hW hG hk hbw hsz
            try simp only [LY]
            clear Ee150 Ee160
            go_upto_region 16 with fail
            refine U_region (S := fun w' => True) (by kernel_rfl) 10 ?_
            refine AnyU.abs ?_
            intro w56 hW
            have hb : Below w55.heap.size w55 w56 := by rw [hW]; exact bDrew _
            replace hs := bStep hs hb
            replace h6 := h6.mono hb
            replace h8 := h8.mono hb
            replace Vjo := OwnG.mono ClC.kept Vjo hb
            replace Vma := OwnG.mono IC.kept Vma hb
            clear hb hW
            have hH := (show True from True.intro)
            refine U_tk 0 95 ?_ ?_ hH ?_
            rotate_left
            · (intro w hSw; (try dsimp only at hSw); go_simp; try with_reducible rfl)
            simp only [LY]
            refine U_tk 1 96 ?_ ?_ hH ?_
            rotate_left
            · (intro w hSw; (try dsimp only at hSw); go_simp; try with_reducible rfl)
            simp only [LY]
            refine U_tk 2 97 ?_ ?_ hH ?_
            rotate_left
            · (intro w hSw; (try dsimp only at hSw); go_simp; try with_reducible rfl)
            simp only [LY]
            refine U_tk 3 98 ?_ ?_ hH ?_
            rotate_left
            · (intro w hSw; (try dsimp only at hSw); go_simp; try with_reducible rfl)
            simp only [LY]
            refine U_tk 4 99 ?_ ?_ hH ?_
            rotate_left
            · (intro w hSw; (try dsimp only at hSw); go_simp; try with_reducible rfl)
            simp only [LY]
            refine U_tk 5 100 ?_ ?_ hH ?_
            rotate_left
            · (intro w hSw; (try dsimp only at hSw); go_simp; try with_reducible rfl)
            simp only [LY]
            refine U_tk 6 101 ?_ ?_ hH ?_
            rotate_left
            · (intro w hSw; (try dsimp only at hSw); go_simp; try with_reducible rfl)
            simp only [LY]
            refine U_tk 7 102 ?_ ?_ hH ?_
            rotate_left
            · (intro w hSw; (try dsimp only at hSw); go_simp; try with_reducible rfl)
            simp only [LY]
            refine U_tk 8 5 ?_ ?_ hH ?_
            rotate_left
            · (intro w hSw; (try dsimp only at hSw); go_simp; try with_reducible rfl)
            simp only [LY]
            refine U_tk 9 6 ?_ ?_ hH ?_
            rotate_left
            · (intro w hSw; (try dsimp only at hSw); go_simp; try with_reducible rfl)
            simp only [LY]
            clear hH
            refine U_endN (by kernel_rfl) ?_
            have HN2 := Lib.hid (show r.length + 1 = m + 1 by rw [HM.out])
            have HG2 := Lib.hid (show pavG (b ++ a) r = pavL (L.take (k + 1)) by have h := HG.out; unfold pavG at h; rw [if_pos (show shQ (sumC a) < shQ (sumC b) by rw [← HSA.out, ← HSB.out]; exact q10H.out)] at h; exact h)
            have HC2 := Lib.hid (show segOk (b ++ a) ∧ chain r from ⟨seg_join HC.out.2.1 HC.out.1 (show shQ (sumC a) < shQ (sumC b) by rw [← HSA.out, ← HSB.out]; exact q10H.out), HC.out.2.2.2⟩)
            have HF2 := Lib.hid (show flatR ((b ++ a) :: r) = L.take (k + 1) by rw [← HF.out, flatR_cons, flatR_cons, flatR_cons, List.append_assoc])
            have OJ := Lib.hid (Vjo.take (k := m + 1) (by rw [(stJ12_len HM.out).2.1]; omega))
            have OM := Lib.hid (Vma.take (k := m + 1) (by rw [(stJ12_len HM.out).2.2]; omega))
            rw [stJ2_take HM.out] at OJ
            rw [stM1_take HM.out] at OM
            clear Vjo Vma
            go_wp2
            go_roundw
            case rel => exact ⟨b ++ a, r, m + 1, by omega, by omega, by first | rfl | exact congrArg _ (by omega), HN2, HG2, HC2, HF2, hs, OJ.out, OM.out, Aq_jo_ma⟩
            all_goals first | (simp [intOf]; done) | (simp [intOf]; omega)
          · have q10_ : ¬ (0 < sg9) := by have h := sq_gt (shQ (tb, fb)) (shQ (ta, fa)); rw [← Hsg9.out] at h; exact fun h1 => q10 (h.1 h1)
            have q10H := Lib.hid q10
            clear q10
            have q10d : decide (0 < sg9) = false := decide_eq_false q10_
            have HE := (show a :: b :: r = pavL (L.take (k + 1)) by have h := HG.out; unfold pavG at h; rw [if_neg (show ¬ shQ (sumC a) < shQ (sumC b) by rw [← HSA.out, ← HSB.out]; exact q10H.out)] at h; exact h)
            have Ojo : OwnR w1.heap.size 57 2 ClC w49 (.slice (some ⟨gjo, 0, none⟩) (m + 2) cjo) (stJ (pavL (L.take (k + 1)))) := by rw [← HE]; have h := Vjo; unfold OwnG at h; rw [stJ2_len HM.out] at h; exact h
            have Oma : OwnR w1.heap.size 3 1 IC w49 (.slice (some ⟨gma, 0, none⟩) (m + 2) cma) (stM (pavL (L.take (k + 1)))) := by rw [← HE]; have h := Vma; unfold OwnG at h; rw [stM2_len HM.out] at h; exact h
            clear Vjo Vma HE
            go_wp2
            go_roundw
            case rel => exact ⟨k + 1, by omega, by go_num, hs, Ojo, Oma, Aq_jo_ma⟩
            all_goals first | (simp [intOf]; done) | (simp [intOf]; omega)
    · have q2d : ((k : Int) < (L.length : Int)) = False := eq_false (by omega)
      obtain rfl : k = L.length := by omega
      rw [List.take_length] at Ojo Oma
      have hJ := Ojo.rows
      have hM := Oma.rows
      clear Ojo Oma lpv lnj lnm
      obtain ⟨bhJ, ohJ, khJ, eJ, hJ1, hJ2, -⟩ := hJ.open_ (by rw [stJ_len]; exact pavL_pos HOK.out h1)
      subst eJ
      obtain ⟨bhM, ohM, khM, eM, hM1, hM2, -⟩ := hM.open_ (by rw [stM_len]; exact pavL_pos HOK.out h1)
      subst eM
      have lnJ : (stJ (pavL L)).length ≤ L.length := Nat.le_trans (Nat.le_of_eq (stJ_len _)) (by have := pavL_len HOK.out (Nat.le_refl L.length); rwa [List.take_length] at this)
      have lnM : (stM (pavL L)).length = (stJ (pavL L)).length := by rw [stM_len, stJ_len]
      have lnM1 := Nat.le_of_eq lnM
      have lnM2 := Nat.le_of_eq lnM.symm
      clear lnM
      replace hs := bStep HB0_1.out hs
      go_wp2
      go_loopw [10, 106] (fun s10 s106 wq => ∃ j : Nat, j ≤ (stJ (pavL L)).length ∧ s106 = .int .i64 j ∧ Below w.heap.size w wq ∧ Rows 2 57 ClC wq (.slice (some ⟨bhJ, ohJ, none⟩) (stJ (pavL L)).length khJ) ((stJ (pavL L))) ∧ Rows 1 3 IC wq (.slice (some ⟨bhM, ohM, none⟩) (stM (pavL L)).length khM) ((stM (pavL L))) ∧ OwnR w.heap.size 29 3 PC wq s10 (outK (pavL L).reverse j)) (fun s10 s106 _ => (stJ (pavL L)).length - (intOf s106).toNat)
      case atStart => exact ⟨0, Nat.zero_le _, rfl, hs, hJ, hM, OwnR.nil _ _ _ _ _⟩
      case round =>
        clear hJ hM hs
        obtain ⟨j, k_le, rfl, hs, hJ, hM, Oou⟩ := hrel
        obtain ⟨wo, hwo⟩ : ∃ x, x = wr := ⟨_, rfl⟩
        subst hwo
        have lno : (outK (pavL L).reverse j).length ≤ 16 * j := outK_len HOK.out h16 j
        by_cases q3 : j < (stJ (pavL L)).length
        · have q3d : ((j : Int) < ((stJ (pavL L)).length : Int)) = True := eq_true (by omega)
          obtain ⟨a, HA⟩ : ∃ a, (pavL L).reverse[j]? = some a := ⟨_, List.getElem?_eq_getElem (by rw [stJ_len] at *; simp; omega)⟩
          have AB := seg_bd (l := L) h16 HOK.out (pav_flat HOK.out) (a := a) (List.mem_reverse.1 (List.mem_of_getElem? HA)) (pav_ne HOK.out (List.mem_reverse.1 (List.mem_of_getElem? HA)))
          have HV := stJ_rev HA
          replace HA := Lib.hid HA
          obtain ⟨ta, HTA⟩ : ∃ z : Int, z = (sumC a).1 := ⟨_, rfl⟩
          obtain ⟨fa, HFA⟩ : ∃ z : Int, z = (sumC a).2 := ⟨_, rfl⟩
          rw [← HTA, ← HFA] at AB
          obtain ⟨AB1, AB2, AB3, AB4, AB5, AB6⟩ := AB
          have BIm : j < (stM (pavL L)).length := by omega
          have BIn : (j : Int) < ((stM (pavL L)).length : Int) := by omega
          have HV1 := HV.1
          have HV2 := HV.2
          clear HV
          have HT1 : (clAt (stJ (pavL L)) j).1 = ta := by rw [HV1, HTA]
          have HF1 : (clAt (stJ (pavL L)) j).2 = fa := by rw [HV1, HFA]
          replace HT1 := Lib.hid HT1
          replace HF1 := Lib.hid HF1
          replace HV2 := Lib.hid HV2
          replace HTA := Lib.hid HTA.symm
          replace HFA := Lib.hid HFA.symm
          have HSH := Lib.hid (show shQ (ta, fa) = shQ (sumC a) by rw [← HTA.out, ← HFA.out])
          clear HV1
          obtain ⟨Ee40, Ee41, le4⟩ := rowCl_at hJ (show j < (stJ (pavL L)).length by omega)
          rw [HT1.out] at Ee40
          rw [HF1.out] at Ee41
          obtain ⟨Ee50, le5⟩ := rowI_at hM (show j < (stM (pavL L)).length by omega)
          rw [HV2.out] at Ee50
          simp only [Nat.mul_one] at Ee50
          go_wp2
          clear le4 Ee40 Ee41 le5 Ee50
          refine Code.abs ?_
          intro w42 hW
          have hG : Gr [] wo w42 := by rw [hW]; exact (Gr.refl _ _).alloc
          have hbw : Below w.heap.size wo w42 := hG.below0 hs.size
          have hk : KeepD wo w42 := hG.keep True.intro
          have sz_w42 : w.heap.size ≤ wo.heap.size := hs.size
          have nhJ_w42 : bhJ < wo.heap.size := hJ.lt (by omega)
          have nhM_w42 : bhM < wo.heap.size := hM.lt (by omega)
          have Blc : Bx w42 (wo.heap.size) 57 #[.int .i64 ta, .int .i64 fa] := by rw [hW]; exact (Bx.new0 _ _ _)
          replace hs := hs.trans hbw
          replace hJ := rowsJ ClC.kept _ _ _ hJ (hG.below0 (Nat.le_refl _))
          replace hM := rowsJ IC.kept _ _ _ hM (hG.below0 (Nat.le_refl _))
          replace Oou := Oou.mono PC.kept (hG.below0 (Nat.le_refl _))
          clear hW hG hk hbw
          have hz_w42 : wo.heap.size < w42.heap.size := Blc.lt
          go_loopw [10, 115] (fun s10 s115 wq => ∃ t : Nat, t ≤ a.length ∧ s115 = .int .i64 t ∧ Below w.heap.size w wq ∧ Bx wq (wo.heap.size) 57 #[.int .i64 ta, .int .i64 fa] ∧ Rows 2 57 ClC wq (.slice (some ⟨bhJ, ohJ, none⟩) (stJ (pavL L)).length khJ) ((stJ (pavL L))) ∧ Rows 1 3 IC wq (.slice (some ⟨bhM, ohM, none⟩) (stM (pavL L)).length khM) ((stM (pavL L))) ∧ OwnR w.heap.size 29 3 PC wq s10 (outK (pavL L).reverse j ++ List.replicate t (shQ (sumC a)))) (fun s10 s115 _ => a.length - (intOf s115).toNat)
          case atStart => exact ⟨0, Nat.zero_le _, rfl, hs, Blc, hJ, hM, (by rw [show List.replicate 0 (shQ (sumC a)) = [] from rfl, List.append_nil]; exact Oou)⟩
          case round =>
            clear Blc hJ hM hs Oou
            obtain ⟨t, k_le, rfl, hs, Blc, hJ, hM, Oou⟩ := hrel
            by_cases q6 : t < a.length
            · have q6d : ((t : Int) < (a.length : Int)) = True := eq_true (by omega)
              have cc_0 : wr.cell? ⟨wo.heap.size, 0, none⟩ = some (.int .i64 ta) := Blc.at 0 rfl
              have cc_1 : wr.cell? ⟨wo.heap.size, 1, none⟩ = some (.int .i64 fa) := Blc.at 1 rfl
              have Lc : wo.heap.size < wr.heap.size := Blc.lt
              go_wp2_with fail
              clear cc_0 cc_1 Lc
              with_reducible refine (cl_share (t := ta) (f := fa) _ (by omega) (by omega) (by omega) (by omega)).mono ?_
              rintro e w63 ⟨_, rfl, h7, hb⟩
              obtain ⟨sh7, ah7, nh7, ch7, Ah7, Nh7, Ch7, rfl⟩ := h7.shape
              replace hs := bStep hs hb
              replace Blc := Blc.mono hb
              replace Oou := Oou.mono PC.kept hb
              replace hJ := rowsJ ClC.kept _ _ _ hJ hb
              replace hM := rowsJ IC.kept _ _ _ hM hb
              clear hb
              go_wp2_with (at_builtin; refine wpList.stop ?_)
              refine ⟨?_⟩
              refine wpList.abs ?_
              intro w64 hW
              have hG : Gr [] w63 w64 := by rw [hW]; exact (Gr.refl _ _).alloc
              have hbw : Below w.heap.size w63 w64 := hG.below0 hs.size
              have hk : KeepD w63 w64 := hG.keep True.intro
              have sz_w64 : w.heap.size ≤ w63.heap.size := hs.size
              have nc_w64 : wo.heap.size < w63.heap.size := Blc.lt
              have nhJ_w64 : bhJ < w63.heap.size := hJ.lt (by omega)
              have nhM_w64 : bhM < w63.heap.size := hM.lt (by omega)
              have Blls : Bx w64 (w63.heap.size) 29 #[.bool sh7, .slice ah7 nh7 ch7, .slice Ah7 Nh7 Ch7] := by rw [hW]; exact (Bx.new0 _ _ _)
              replace hs := hs.trans hbw
              replace hJ := rowsJ ClC.kept _ _ _ hJ (hG.below0 (Nat.le_refl _))
              replace hM := rowsJ IC.kept _ _ _ hM (hG.below0 (Nat.le_refl _))
              replace Blc := hG.bx Blc notMem0
              replace h7 := h7.keep hk
              replace Oou := Oou.mono PC.kept (hG.below0 (Nat.le_refl _))
              clear hW hG hk hbw
              have hz_w64 : w63.heap.size < w64.heap.size := Blls.lt
              obtain ⟨css, ho1, ho2, ho3, hown0⟩ := Oou
              refine wpList_append_lies _ rfl _ _ _ rfl w.heap.size 29 q0 _ 3 56 Tryz.underlying46 hq hx0 hx1 hx2 rfl (by omega) _ _ css.flatten rfl hown0 ⟨w63.heap.size, 0, none⟩ 1 1 [.bool sh7, .slice ah7 nh7 ch7, .slice Ah7 Nh7 Ch7] rfl rfl Blls.news ?_ (by omega) ?_ ?_ ?_ _ rfl ?_
              · intro u hu; simp only [List.mem_cons, List.mem_nil_iff, or_false] at hu; rcases hu with rfl | rfl | rfl <;> rfl
              · unfold maxLen; (try simp only [List.length_append, List.length_cons, List.length_nil, List.length_replicate]); omega
              · (try simp only [List.length_append, List.length_cons, List.length_nil, List.length_replicate]); omega
              · exact hs.size
              intro gou capou w65 hown1 hgrow hat hlt_
              have hk_ := KeepD.owns hown0 hgrow (by decide)
              have ho := owns_onlyT hown0 hgrow
              replace hs := hs.grown hgrow hs.size (fun k hk => (hown0.lt k hk).1)
              replace Oou := OwnR.push' PC.kept ho1 ho2 ho3 (x := shQ (ta, fa)) rfl ⟨_, _, _, rfl, h7⟩ (by simp) hown1 hk_
              replace Blc := Blc.only ho (by decide)
              replace h7 := h7.keep hk_
              replace hJ := hJ.onlyT ClC.kept ho (by decide) (by decide)
              replace hM := hM.onlyT IC.kept ho (by decide) (by decide)
              clear hk_ ho ho1 ho2 ho3 hown0 hown1 hgrow hat hlt_ Blls
              go_wp2
              go_roundw
              case rel => exact ⟨t + 1, by omega, by go_num, hs, Blc, hJ, hM, by rw [List.replicate_succ', ← List.append_assoc, ← HSH.out]; rw [← HSH.out, List.length_append, List.length_replicate] at Oou; exact Oou⟩
              all_goals first | (simp [intOf]; done) | (simp [intOf]; omega)
            · have q6d : ((t : Int) < (a.length : Int)) = False := eq_false (by omega)
              obtain rfl : t = a.length := by omega
              go_wp2
              go_roundw
              case rel => exact ⟨j + 1, by omega, by go_num, hs, hJ, hM, by rw [outK_succ HA.out]; exact Oou⟩
              all_goals first | (simp [intOf]; done) | (simp [intOf]; omega)
        · have q3d : ((j : Int) < ((stJ (pavL L)).length : Int)) = False := eq_false (by omega)
          go_wp2
          obtain rfl : j = (stJ (pavL L)).length := by omega
          have hR := Oou.rows
          rw [stJ_len, outK_all] at hR
          go_ret2
          exact ⟨_, _, rfl, hR, rfl, hs⟩

end Go.Proofs.YtmnipggjjcmjkaaGreat
