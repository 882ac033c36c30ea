/-
  Joined classes as the program's two lists have them (the first one at the bottom); how great they get. No function of the program is walked here.
-/
import Derived.Test.YtmnipggjjcmjkaaGreatPkPavQ
import Derived.Test.YtmnipggjjcmjkaaGreatPkVecQ
import Derived.Test.YtmnipggjjcmjkaaGreatPkAlBQ
import Derived.Test.YtmnipggjjcmjkaaGreatAlGQ
set_option linter.unusedSimpArgs false
set_option linter.unusedVariables false
namespace Go.Proofs.YtmnipggjjcmjkaaGreat
open Go.RowKit Dg

/-- A class in two cells. -/
def ClC (_ : World) (cs : List Value) (x : Cls) : Prop := cs = [.int .i64 x.1, .int .i64 x.2]
theorem ClC.kept : Kept ClC := fun _ _ _ _ h _ => h
theorem cls_info : (Tryz.prog.info? 57).map (fun i => (i.zero, i.size, i.bytes)) = some (some (.agg #[.int .i64 0, .int .i64 0]), 2, 16) := by kernel_rfl
def clAt (L : List Cls) (i : Nat) : Cls := L.getD i (0, 0)
theorem clAt_some {L : List Cls} {i : Nat} (h : i < L.length) : L[i]? = some (clAt L i) := by unfold clAt; rw [List.getD_eq_getElem?_getD, List.getElem?_eq_getElem h]; rfl
theorem rowCl_at {w : World} {U : TypeId} {b o n c : Nat} {L : List Cls} {i : Nat} (h : Rows 2 U ClC w (.slice (some ⟨b, o, none⟩) n c) L) (hi : i < L.length) :
    w.cell? ⟨b, o + i * 2, none⟩ = some (.int .i64 (clAt L i).1) ∧ w.cell? ⟨b, o + i * 2 + 1, none⟩ = some (.int .i64 (clAt L i).2) ∧ b < w.heap.size := by
  obtain ⟨b', o', c', cs, hv, _, hat, rfl⟩ := h.get (clAt_some hi)
  obtain ⟨e, rfl⟩ := sliceE hv
  injection e with e
  injection e with e1 e2
  subst e1 e2
  exact ⟨hat 0 _ rfl, hat 1 _ rfl, cell_lt (hat 0 _ rfl)⟩
theorem RowsI.openI {α : Type} {size : Nat} {R : World → List Value → α → Prop} {w : World} {v : Value} {l : List α} (h : RowsI size R w v l) (hl : 0 < l.length) : ∃ b o c, v = .slice (some ⟨b, o, none⟩) l.length c ∧ l.length ≤ c ∧ c ≤ 9223372036854775807 := by
  obtain ⟨ao, c, e, h1, h2, h3, h5⟩ := h
  obtain ⟨b, o, cs, rfl, _⟩ := h5 0 _ (List.getElem?_eq_getElem hl)
  exact ⟨b, o, c, e, h1, h2⟩
theorem rowClI_at {w : World} {b o n c : Nat} {L : List Cls} {i : Nat} (h : RowsI 2 ClC w (.slice (some ⟨b, o, none⟩) n c) L) (hi : i < L.length) :
    w.cell? ⟨b, o + i * 2, none⟩ = some (.int .i64 (clAt L i).1) ∧ w.cell? ⟨b, o + i * 2 + 1, none⟩ = some (.int .i64 (clAt L i).2) ∧ b < w.heap.size := by
  obtain ⟨b', o', c', cs, hv, _, hat, rfl⟩ := h.get (clAt_some hi)
  obtain ⟨e, rfl⟩ := sliceE hv
  injection e with e
  injection e with e1 e2
  subst e1 e2
  exact ⟨hat 0 _ rfl, hat 1 _ rfl, cell_lt (hat 0 _ rfl)⟩
theorem ownCl_at {base cap : Nat} {w : World} {U : TypeId} {g : Nat} {L : List Cls} {i : Nat} {x : Cls} (h : OwnG base U 2 ClC cap w g L) (hx : L[i]? = some x) :
    w.cell? ⟨g, i * 2, none⟩ = some (.int .i64 x.1) ∧ w.cell? ⟨g, i * 2 + 1, none⟩ = some (.int .i64 x.2) := by
  obtain ⟨cs, _, rfl, hat⟩ := h.cell hx
  exact ⟨hat 0 _ rfl, hat 1 _ rfl⟩
theorem ownI_at {base cap : Nat} {w : World} {U : TypeId} {g : Nat} {L : List Int} {i : Nat} {x : Int} (h : OwnG base U 1 IC cap w g L) (hx : L[i]? = some x) : w.cell? ⟨g, i, none⟩ = some (.int .i64 x) := by
  obtain ⟨cs, _, rfl, hat⟩ := h.cell hx
  have := hat 0 _ rfl
  rwa [Nat.mul_one, Nat.add_zero] at this
theorem ownCl_put0 {base cap : Nat} {w w' : World} {U : TypeId} {g : Nat} {L : List Cls} {i : Nat} {x : Cls} {u : Int} (h : OwnG base U 2 ClC cap w g L) (hx : L[i]? = some x) (hT : U ≠ 176 ∧ U ≠ 212) (hG : Gr [] (w.setCell ⟨g, i * 2, none⟩ (.int .i64 u)) w') : OwnG base U 2 ClC cap w' g (L.set i (u, x.2)) :=
  h.put ClC.kept (j := 0) hx (by decide) hT (fun _ cs _ h => by subst h; rfl) hG
theorem ownCl_put1 {base cap : Nat} {w w' : World} {U : TypeId} {g : Nat} {L : List Cls} {i : Nat} {x : Cls} {u : Int} (h : OwnG base U 2 ClC cap w g L) (hx : L[i]? = some x) (hT : U ≠ 176 ∧ U ≠ 212) (hG : Gr [] (w.setCell ⟨g, i * 2 + 1, none⟩ (.int .i64 u)) w') : OwnG base U 2 ClC cap w' g (L.set i (x.1, u)) :=
  h.put ClC.kept (j := 1) hx (by decide) hT (fun _ cs _ h => by subst h; rfl) hG
theorem ownI_put {base cap : Nat} {w w' : World} {U : TypeId} {g : Nat} {L : List Int} {i : Nat} {x u : Int} (h : OwnG base U 1 IC cap w g L) (hx : L[i]? = some x) (hT : U ≠ 176 ∧ U ≠ 212) (hG : Gr [] (w.setCell ⟨g, i, none⟩ (.int .i64 u)) w') : OwnG base U 1 IC cap w' g (L.set i u) :=
  h.put IC.kept (j := 0) hx (by decide) hT (fun _ cs _ h => by subst h; rfl) (by rw [Nat.mul_one, Nat.add_zero]; exact hG)

/-- The joined classes, the first one first; and how many classes each one has. -/
def stJ (s : List (List Cls)) : List Cls := s.reverse.map sumC
def stM (s : List (List Cls)) : List Int := s.reverse.map fun a => (a.length : Int)
def stJ1 (a b : List Cls) (r : List (List Cls)) : List Cls := stJ r ++ [((sumC b).1 + (sumC a).1, (sumC b).2), sumC a]
def stJ2 (a b : List Cls) (r : List (List Cls)) : List Cls := stJ r ++ [sumC (b ++ a), sumC a]
def stM1 (a b : List Cls) (r : List (List Cls)) : List Int := stM r ++ [((b ++ a).length : Int), (a.length : Int)]
theorem stJ_len (s : List (List Cls)) : (stJ s).length = s.length := by simp [stJ]
theorem stM_len (s : List (List Cls)) : (stM s).length = s.length := by simp [stM]
theorem stJ_cons (a : List Cls) (r : List (List Cls)) : stJ (a :: r) = stJ r ++ [sumC a] := by simp [stJ]
theorem stM_cons (a : List Cls) (r : List (List Cls)) : stM (a :: r) = stM r ++ [(a.length : Int)] := by simp [stM]
section
variable {a b : List Cls} {r : List (List Cls)} {m : Nat}
theorem stJ2_len (h : r.length = m) : (stJ (a :: b :: r)).length = m + 2 := by rw [stJ_len]; simp [h]
theorem stM2_len (h : r.length = m) : (stM (a :: b :: r)).length = m + 2 := by rw [stM_len]; simp [h]
theorem two_at {α : Type} {l : List α} {x y : α} (h : l.length = m) : (l ++ [x, y])[m]? = some x ∧ (l ++ [x, y])[m + 1]? = some y := by
  constructor
  · rw [List.getElem?_append_right (by omega), h, Nat.sub_self]; rfl
  · rw [List.getElem?_append_right (by omega), h, show m + 1 - m = 1 by omega]; rfl
theorem two_set {α : Type} {l : List α} {x y z : α} (h : l.length = m) : (l ++ [x, y]).set m z = l ++ [z, y] := by
  rw [List.set_append_right _ _ (by omega), h, Nat.sub_self]; rfl
theorem two_take {α : Type} {l : List α} {x y : α} (h : l.length = m) : (l ++ [x, y]).take (m + 1) = l ++ [x] := by
  rw [List.take_append, h, show m + 1 - m = 1 by omega, List.take_of_length_le (by omega)]; rfl
theorem stJ_two (a b : List Cls) (r : List (List Cls)) : stJ (a :: b :: r) = stJ r ++ [sumC b, sumC a] := by rw [stJ_cons, stJ_cons, List.append_assoc]; rfl
theorem stM_two (a b : List Cls) (r : List (List Cls)) : stM (a :: b :: r) = stM r ++ [(b.length : Int), (a.length : Int)] := by rw [stM_cons, stM_cons, List.append_assoc]; rfl
theorem stJ_at (h : r.length = m) : (stJ (a :: b :: r))[m]? = some (sumC b) ∧ (stJ (a :: b :: r))[m + 1]? = some (sumC a) := by rw [stJ_two]; exact two_at ((stJ_len r).trans h)
theorem stM_at (h : r.length = m) : (stM (a :: b :: r))[m]? = some (b.length : Int) ∧ (stM (a :: b :: r))[m + 1]? = some (a.length : Int) := by rw [stM_two]; exact two_at ((stM_len r).trans h)
theorem stJ1_at (h : r.length = m) : (stJ1 a b r)[m]? = some ((sumC b).1 + (sumC a).1, (sumC b).2) ∧ (stJ1 a b r)[m + 1]? = some (sumC a) := two_at ((stJ_len r).trans h)
theorem stJ_set (h : r.length = m) : (stJ (a :: b :: r)).set m ((sumC b).1 + (sumC a).1, (sumC b).2) = stJ1 a b r := by rw [stJ_two]; exact two_set ((stJ_len r).trans h)
theorem stJ1_set (h : r.length = m) : (stJ1 a b r).set m ((sumC b).1 + (sumC a).1, (sumC b).2 + (sumC a).2) = stJ2 a b r := by
  unfold stJ2; rw [sumC_append]; exact two_set ((stJ_len r).trans h)
theorem stM_set (h : r.length = m) : (stM (a :: b :: r)).set m ((b.length : Int) + (a.length : Int)) = stM1 a b r := by
  rw [stM_two]
  unfold stM1
  rw [show ((b ++ a).length : Int) = (b.length : Int) + (a.length : Int) by simp]
  exact two_set ((stM_len r).trans h)
theorem stJ2_take (h : r.length = m) : (stJ2 a b r).take (m + 1) = stJ ((b ++ a) :: r) := by rw [stJ_cons]; exact two_take ((stJ_len r).trans h)
theorem stM1_take (h : r.length = m) : (stM1 a b r).take (m + 1) = stM ((b ++ a) :: r) := by rw [stM_cons]; exact two_take ((stM_len r).trans h)
theorem stJ12_len (h : r.length = m) : (stJ1 a b r).length = m + 2 ∧ (stJ2 a b r).length = m + 2 ∧ (stM1 a b r).length = m + 2 := by
  unfold stJ1 stJ2 stM1
  simp [stJ_len, stM_len, h]
end
/-- Right classes. -/
def ClOk (c : Cls) : Prop := 1 ≤ c.1 ∧ c.1 ≤ 64 ∧ 0 ≤ c.2 ∧ c.2 ≤ c.1
theorem sumC_bd : ∀ l : List Cls, (∀ c ∈ l, ClOk c) → (l.length : Int) ≤ (sumC l).1 ∧ (sumC l).1 ≤ 64 * l.length ∧ 0 ≤ (sumC l).2 ∧ (sumC l).2 ≤ (sumC l).1
  | [], _ => by simp [sumC]
  | c :: l, h => by
    have a := h c (by simp)
    have b := sumC_bd l (fun x hx => h x (by simp [hx]))
    unfold ClOk at a
    show ((l.length + 1 : Nat) : Int) ≤ c.1 + (sumC l).1 ∧ c.1 + (sumC l).1 ≤ 64 * ((l.length + 1 : Nat) : Int) ∧ 0 ≤ c.2 + (sumC l).2 ∧ c.2 + (sumC l).2 ≤ c.1 + (sumC l).1
    omega
theorem mem_flatR {s : List (List Cls)} {a : List Cls} (h : a ∈ s) : (∀ c ∈ a, c ∈ flatR s) ∧ a.length ≤ (flatR s).length := by
  induction s with
  | nil => simp at h
  | cons b s ih =>
    rw [flatR_cons]
    rcases List.mem_cons.1 h with rfl | h
    · exact ⟨fun c hc => List.mem_append.2 (.inr hc), by simp⟩
    · obtain ⟨i, j⟩ := ih h
      exact ⟨fun c hc => List.mem_append.2 (.inl (i c hc)), by rw [List.length_append]; omega⟩
/-- A segment of at most 16 right classes. -/
theorem seg_bd {s : List (List Cls)} {l : List Cls} (hl : l.length ≤ 16) (hok : ∀ c ∈ l, ClOk c) (hs : flatR s = l) {a : List Cls} (ha : a ∈ s) (hne : a ≠ []) : 1 ≤ (sumC a).1 ∧ (sumC a).1 ≤ 1024 ∧ 0 ≤ (sumC a).2 ∧ (sumC a).2 ≤ 1024 ∧ 1 ≤ a.length ∧ a.length ≤ 16 := by
  obtain ⟨i, j⟩ := mem_flatR ha
  rw [hs] at j
  have b := sumC_bd a (fun c hc => hok c (hs ▸ i c hc))
  have p : 0 < a.length := List.length_pos_iff.2 hne
  omega
end Go.Proofs.YtmnipggjjcmjkaaGreat
/-
  allow: a class's share, the error of classes, Rising.
-/
namespace Go.Proofs.YtmnipggjjcmjkaaGreat
open Go.RowKit Dg
attribute [local go_sem ↓] Go.wp_at_zero Go.wp_at_succ

set_option maxRecDepth 100000 in
set_option maxHeartbeats 4000000 in
theorem cl_share {t f : Int} (w : World) (h1 : 1 ≤ t) (h2 : t ≤ 1048576) (h3 : 0 ≤ f) (h4 : f ≤ 1048576) : Calls Tryz.prog 102 #[.agg #[.int .i64 t, .int .i64 f]] w (RetP w (shQ (t, f))) := by
  have hs := Below.refl w.heap.size w
  go_enter Tryz.func102, Tryz.ntmps102
  go_wp2_with fail
  refine Calls.abs ?_
  intro w1 hW
  have hG : Gr [] w w1 := by rw [hW]; exact (Gr.refl _ _).alloc.alloc
  have hbw : Below w.heap.size w w1 := hG.below0 hs.size
  have hk : KeepD w w1 := hG.keep True.intro
  have sz_w1 : w.heap.size ≤ w.heap.size := hs.size
  have Blc : Bx w1 (w.heap.size) 57 #[.int .i64 t, .int .i64 f] := by rw [hW]; exact ((Bx.new0 _ _ _).alloc _)
  have Blk : Bx w1 (w.heap.size + 1) 29 #[.bool false, .slice none 0 0, .slice none 0 0] := by rw [hW]; exact (Bx.new0 _ _ _)
  replace hs := hs.trans hbw
  clear hW hG hk hbw
  have hz_w1 : w.heap.size + 1 < w1.heap.size := Blk.lt
  with_reducible refine (al_New_e _ rfl (by omega) (by omega) (by omega) (by omega)).mono ?_
  rintro e w2 ⟨_, rfl, h1, hb⟩
  obtain ⟨sh1, ah1, nh1, ch1, Ah1, Nh1, Ch1, rfl⟩ := h1.shape
  replace hs := bStep hs hb
  replace Blc := Blc.mono hb
  replace Blk := Blk.mono hb
  clear hb
  go_upto_region 2 with fail
  refine Code.abs ?_
  intro w3 hW
  have hG : Gr [] w2 w3 := by rw [hW]; exact (Gr.refl _ _).alloc
  have hbw : Below w.heap.size w2 w3 := hG.below0 hs.size
  have hk : KeepD w2 w3 := hG.keep True.intro
  have sz_w3 : w.heap.size ≤ w2.heap.size := hs.size
  have nc_w3 : w.heap.size < w2.heap.size := Blc.lt
  have nk_w3 : w.heap.size + 1 < w2.heap.size := Blk.lt
  have Blx : Bx w3 (w2.heap.size) 29 #[.bool sh1, .slice ah1 nh1 ch1, .slice Ah1 Nh1 Ch1] := by rw [hW]; exact (Bx.new0 _ _ _)
  replace hs := hs.trans hbw
  replace Blc := hG.bx Blc notMem0
  replace Blk := hG.bx Blk notMem0
  replace h1 := h1.keep hk
  clear hW hG hk hbw
  have hz_w3 : w2.heap.size < w3.heap.size := Blx.lt
  have cx_0 : w3.cell? ⟨w2.heap.size, 0, none⟩ = some (.bool sh1) := Blx.at 0 rfl
  have cx_1 : w3.cell? ⟨w2.heap.size, 1, none⟩ = some (.slice ah1 nh1 ch1) := Blx.at 1 rfl
  have cx_2 : w3.cell? ⟨w2.heap.size, 2, none⟩ = some (.slice Ah1 Nh1 Ch1) := Blx.at 2 rfl
  have Lx : w2.heap.size < w3.heap.size := Blx.lt
  have ck_0 : w3.cell? ⟨w.heap.size + 1, 0, none⟩ = some (.bool false) := Blk.at 0 rfl
  have ck_1 : w3.cell? ⟨w.heap.size + 1, 1, none⟩ = some (.slice none 0 0) := Blk.at 1 rfl
  have ck_2 : w3.cell? ⟨w.heap.size + 1, 2, none⟩ = some (.slice none 0 0) := Blk.at 2 rfl
  have fk := Blk.free
  have Lk : w.heap.size + 1 < w3.heap.size := Blk.lt
  go_wp2
  clear cx_0 cx_1 cx_2 ck_0 ck_1 ck_2 fk Lx Lk
  refine bodyPost.abs ?_
  intro w4 hW
  have hG : Gr [w.heap.size + 1] w3 w4 := by rw [hW]; exact (Gr.refl _ _).set.set.set
  have hsz := hs.size
  have lk := Blk.lt
  have hbw : Below w.heap.size w3 w4 := hG.below1 hs.size (by first | omega | assumption)
  have hk : KeepD w3 w4 := hG.keep ⟨⟨_, Blk.ty, by decide⟩, True.intro⟩
  have Bl1k : Bx w4 (w.heap.size + 1) 29 #[.bool sh1, .slice ah1 nh1 ch1, .slice Ah1 Nh1 Ch1] := by rw [hW]; exact Blk.set3
  replace hs := hs.trans hbw
  replace Blc := hG.bx Blc (notMem1 (by omega))
  replace Blx := hG.bx Blx (notMem1 (by omega))
  replace Blk := Bl1k
  clear Bl1k
  replace h1 := h1.keep hk
  clear hW hG hk hbw hsz lk
  have ck_0 : w4.cell? ⟨w.heap.size + 1, 0, none⟩ = some (.bool sh1) := Blk.at 0 rfl
  have ck_1 : w4.cell? ⟨w.heap.size + 1, 1, none⟩ = some (.slice ah1 nh1 ch1) := Blk.at 1 rfl
  have ck_2 : w4.cell? ⟨w.heap.size + 1, 2, none⟩ = some (.slice Ah1 Nh1 Ch1) := Blk.at 2 rfl
  exact bodyPost_ret (v := .agg #[.bool sh1, .slice ah1 nh1 ch1, .slice Ah1 Nh1 Ch1]) (by simp [results, Tryz.results102, go_sem, ck_0, ck_1, ck_2]) rfl ⟨_, rfl, h1, hs⟩

set_option maxRecDepth 100000 in
set_option maxHeartbeats 4000000 in
theorem cl_check_ok {n f : Int} (w : World) (h1 : 1 ≤ n) (h2 : n ≤ 64) (h3 : 0 ≤ f) (h4 : f ≤ n) : Calls Tryz.prog 87 #[.agg #[.int .i64 n, .int .i64 f]] w (RetV w (.int .i64 0)) := by
  have hs := Below.refl w.heap.size w
  go_enter Tryz.func87, Tryz.ntmps87
  have q1 : ¬ (n < 1) := (by omega)
  have q1d : (n < 1) = False := eq_false (by omega)
  have q2 : ¬ (64 < n) := (by omega)
  have q2d : ((64 : Int) < n) = False := eq_false (by omega)
  have q3 : ¬ (f < 0) := (by omega)
  have q3d : (f < 0) = False := eq_false (by omega)
  have q4 : ¬ (n < f) := (by omega)
  have q4d : (n < f) = False := eq_false (by omega)
  go_wp2
  refine bodyPost.abs ?_
  intro w1 hW
  have hG : Gr [] w w1 := by rw [hW]; exact (Gr.refl _ _).alloc
  have hbw : Below w.heap.size w w1 := hG.below0 hs.size
  have hk : KeepD w w1 := hG.keep True.intro
  have sz_w1 : w.heap.size ≤ w.heap.size := hs.size
  have Blc : Bx w1 (w.heap.size) 57 #[.int .i64 n, .int .i64 f] := by rw [hW]; exact (Bx.new0 _ _ _)
  replace hs := hs.trans hbw
  clear hW hG hk hbw
  have hz_w1 : w.heap.size < w1.heap.size := Blc.lt
  go_ret
  exact ⟨rfl, hs⟩

set_option maxRecDepth 100000 in
set_option maxHeartbeats 4000000 in
theorem al_checkClasses {v : Value} {L : List Cls} (w : World) (hl : RowsI 2 ClC w v L) (h1 : 1 ≤ L.length) (h16 : L.length ≤ 16) (hok : ∀ c ∈ L, ClOk c) : Calls Tryz.prog 101 #[v] w (RetV w (.int .i64 0)) := by
  obtain ⟨bhl, ohl, khl, rfl, hl1, hl2⟩ := hl.openI (by omega)
  have HLI := Lib.hid hl
  clear hl
  have HOK := Lib.hid hok
  clear hok
  have hs := Below.refl w.heap.size w
  go_enter Tryz.func101, Tryz.ntmps101
  have q1 : ¬ (L.length < 1) := (by omega)
  have q1d : ((L.length : Int) < 1) = False := eq_false (by omega)
  have q2 : ¬ (16 < L.length) := (by omega)
  have q2d : ((16 : Int) < (L.length : Int)) = False := eq_false (by omega)
  go_wp2
  go_loopw [16] (fun s16 wq => ∃ k : Nat, k ≤ L.length ∧ s16 = .int .i64 k ∧ Below w.heap.size w wq) (fun s16 _ => L.length - (intOf s16).toNat)
  case atStart => exact ⟨0, Nat.zero_le _, rfl, hs⟩
  case round =>
    clear hs
    obtain ⟨k, k_le, rfl, hs⟩ := hrel
    by_cases q3 : k < L.length
    · have q3d : ((k : Int) < (L.length : Int)) = True := eq_true (by omega)
      obtain ⟨Ee40, Ee41, le4⟩ := rowClI_at (HLI.out.mono ClC.kept hs) (show k < L.length by omega)
      obtain ⟨te4, Hte4⟩ : ∃ z : Int, z = (clAt L k).1 := ⟨_, rfl⟩
      obtain ⟨fe4, Hfe4⟩ : ∃ z : Int, z = (clAt L k).2 := ⟨_, rfl⟩
      rw [← Hte4] at Ee40
      rw [← Hfe4] at Ee41
      obtain ⟨bte4a, bte4b, bfe4a, bfe4b⟩ : 1 ≤ te4 ∧ te4 ≤ 64 ∧ 0 ≤ fe4 ∧ fe4 ≤ te4 := by rw [Hte4, Hfe4]; exact HOK.out _ (List.mem_of_getElem? (clAt_some (by omega)))
      replace Hte4 := Lib.hid Hte4.symm
      replace Hfe4 := Lib.hid Hfe4.symm
      go_wp2_with fail
      clear le4 Ee40 Ee41
      refine Calls.abs ?_
      intro w21 hW
      have hG : Gr [] wr w21 := by rw [hW]; exact (Gr.refl _ _).alloc
      have hbw : Below w.heap.size wr w21 := hG.below0 hs.size
      have hk : KeepD wr w21 := hG.keep True.intro
      have sz_w21 : w.heap.size ≤ wr.heap.size := hs.size
      have Blc : Bx w21 (wr.heap.size) 57 #[.int .i64 te4, .int .i64 fe4] := by rw [hW]; exact (Bx.new0 _ _ _)
      replace hs := hs.trans hbw
      clear hW hG hk hbw
      have hz_w21 : wr.heap.size < w21.heap.size := Blc.lt
      with_reducible refine (cl_check_ok _ (by omega) (by omega) (by omega) (by omega)).mono ?_
      rintro e w22 ⟨rfl, hb⟩
      replace hs := bStep hs hb
      replace Blc := Blc.mono hb
      clear hb
      go_wp2
      go_roundw
      case rel => exact ⟨k + 1, by omega, by go_num, hs⟩
      all_goals first | (simp [intOf]; done) | (simp [intOf]; omega)
    · have q3d : ((k : Int) < (L.length : Int)) = False := eq_false (by omega)
      go_wp2
      go_ret
      exact ⟨rfl, hs⟩

end Go.Proofs.YtmnipggjjcmjkaaGreat
/-
  allow: Misfit, Reliable.
-/
namespace Go.Proofs.YtmnipggjjcmjkaaGreat
open Go.RowKit Dg
attribute [local go_sem ↓] Go.wp_at_zero Go.wp_at_succ

/-- How far the first k chances are from the classes. -/
def mfK (L : List Cls) (C : List Rat) (k : Nat) : Rat := mfL (L.take k) (C.take k)
theorem mfK_next {L : List Cls} {C : List Rat} {k : Nat} {t f : Int} (h : k < L.length) (hc : k < C.length) (ht : (clAt L k).1 = t) (hf : (clAt L k).2 = f) : mfK L C k + ((t : Int) : Rat) * (shQ (t, f) - nthQ C k) * (shQ (t, f) - nthQ C k) = mfK L C (k + 1) := by
  have e1 : L[k] = (t, f) := by
    have := clAt_some h
    rw [List.getElem?_eq_getElem h] at this
    injection this with this
    rw [this, ← ht, ← hf]
  have e2 : C[k] = nthQ C k := by
    have := nthQ_some hc
    rw [List.getElem?_eq_getElem hc] at this
    injection this
  unfold mfK
  rw [List.take_succ_eq_append_getElem h, List.take_succ_eq_append_getElem hc, mfL_append _ _ _ _ (by simp; omega), e1, e2]
  show _ = mfL _ _ + (((t : Int) : Rat) * (shQ (t, f) - nthQ C k) * (shQ (t, f) - nthQ C k) + 0)
  grind
theorem mfK_all {L : List Cls} {C : List Rat} (h : C.length ≤ L.length) : mfK L C L.length = mfL L C := by
  unfold mfK
  rw [List.take_length, List.take_of_length_le h]
theorem mfK_sz {L : List Cls} {C : List Rat} (hok : ∀ c ∈ L, ClOk c) (hc : C.length = L.length) (hz : ∀ i, i < C.length → SzQ 1 (nthQ C i)) : ∀ k, k ≤ L.length → SzQ (k * 12 + 1) (mfK L C k)
  | 0, _ => by
    have e : mfK L C 0 = ((0 : Int) : Rat) := by unfold mfK; simp [mfL]
    rw [e]; exact szQ_int (by decide)
  | k + 1, h => by
    have ih := mfK_sz hok hc hz k (by omega)
    rw [← mfK_next (t := (clAt L k).1) (f := (clAt L k).2) (show k < L.length by omega) (by omega) rfl rfl]
    have o := hok _ (List.mem_of_getElem? (clAt_some (show k < L.length by omega)))
    unfold ClOk at o
    have a : SzQ 1 (((clAt L k).1 : Int) : Rat) := szQ_int (by omega)
    have b : SzQ 1 (shQ ((clAt L k).1, (clAt L k).2)) := szQ_frac (n := (clAt L k).2) (d := (clAt L k).1) (by omega) (by omega) (by omega)
    have d := b.sub (hz k (by omega))
    exact (ih.add ((a.mul d).mul d)).mono (by omega)
/-- Which is the first from which on all are right. -/
def relF (P : Nat → Bool) : Nat → Nat
  | 0 => 0
  | k + 1 => if P k = true then relF P k else k + 1
theorem relF_yes {P : Nat → Bool} {k : Nat} (h0 : 0 < k) (h : P (k - 1) = true) : relF P k = relF P (k - 1) := by
  obtain ⟨j, rfl⟩ : ∃ j, k = j + 1 := ⟨k - 1, by omega⟩
  show (if P j = true then relF P j else j + 1) = _
  rw [if_pos (show P j = true from h)]; rfl
theorem relF_no {P : Nat → Bool} {k : Nat} (h0 : 0 < k) (h : ¬ P (k - 1) = true) : relF P k = k := by
  obtain ⟨j, rfl⟩ : ∃ j, k = j + 1 := ⟨k - 1, by omega⟩
  show (if P j = true then relF P j else j + 1) = _
  rw [if_neg (show ¬ P j = true from h)]
/-- Whether class i of L proves p. -/
def prvC (L : List Cls) (u p : Rat) (i : Nat) : Bool := prvQ (clAt L i).1.toNat (clAt L i).2.toNat u p
theorem cl_proves_e {v v' : Value} {p u : Rat} {L : List Cls} {i : Nat} {t f : Int} (w : World) (ht : (clAt L i).1 = t) (hf : (clAt L i).2 = f) (h1 : 1 ≤ t) (h2 : t ≤ 64) (h3 : 0 ≤ f) (hp : PV w v p) (sp : SzQ 1 p) (p0 : 0 ≤ p ∧ p ≤ 1) (hu : PV w v' u) (su : SzQ 1 u) {b : Bool} (hq : prvC L u p i = b) :
    Calls Tryz.prog 91 #[.agg #[.int .i64 t, .int .i64 f], v, v'] w (RetV w (.bool b)) := by
  have h := cl_proves (n := t.toNat) (f := f.toNat) w (by omega) hp sp p0.1 p0.2 hu su (b := b) (by subst ht hf; exact hq)
  rwa [show ((t.toNat : Nat) : Int) = t by omega, show ((f.toNat : Nat) : Int) = f by omega] at h

theorem mfK_zero {L : List Cls} {C : List Rat} : mfK L C 0 = 0 := by unfold mfK; simp [mfL]
set_option maxRecDepth 100000 in
set_option maxHeartbeats 16000000 in
theorem al_Misfit {v v' : Value} {L : List Cls} (w : World) (hl : RowsI 2 ClC w v L) {C : List Rat} (hc : Rows 3 29 PC w v' C) (h1 : 1 ≤ L.length) (h16 : L.length ≤ 16) (hok : ∀ c ∈ L, ClOk c) (n1 : C.length ≤ L.length) (n2 : L.length ≤ C.length) (hz : ∀ i, i < C.length → SzQ 1 (nthQ C i)) {q : Rat} (hq : mfL L C = q) : Calls Tryz.prog 37 #[v, v'] w (RetPE w q 0) := by
  obtain ⟨bhl, ohl, khl, rfl, hl1, hl2⟩ := hl.openI (by omega)
  have HLI := Lib.hid hl
  clear hl
  obtain ⟨bhc, ohc, khc, rfl, hc1, hc2, -⟩ := hc.open_ (by omega)
  have HMZ := Lib.hid (mfK_sz hok (by omega) hz)
  have HOK := Lib.hid hok
  have HCZ := Lib.hid hz
  have HQ := Lib.hid hq
  clear hok hz hq
  have hs := Below.refl w.heap.size w
  go_enter Tryz.func37, Tryz.ntmps37
  go_wp2_with fail
  refine Calls.abs ?_
  intro w1 hW
  have hG : Gr [] w w1 := by rw [hW]; exact (Gr.refl _ _).alloc
  have hbw : Below w.heap.size w w1 := hG.below0 hs.size
  have hk : KeepD w w1 := hG.keep True.intro
  have sz_w1 : w.heap.size ≤ w.heap.size := hs.size
  have nhc_w1 : bhc < w.heap.size := hc.lt (by omega)
  have Blk : Bx w1 (w.heap.size) 29 #[.bool false, .slice none 0 0, .slice none 0 0] := by rw [hW]; exact (Bx.new0 _ _ _)
  replace hs := hs.trans hbw
  replace hc := rowsJ PC.kept _ _ _ hc (hG.below0 (Nat.le_refl _))
  clear hW hG hk hbw
  have hz_w1 : w.heap.size < w1.heap.size := Blk.lt
  with_reducible refine (al_checkClasses _ (HLI.out.mono ClC.kept hs) (by omega) (by omega) HOK.out).mono ?_
  rintro e w2 ⟨rfl, hb⟩
  replace hs := bStep hs hb
  replace Blk := Blk.mono hb
  replace hc := rowsJ PC.kept _ _ _ hc hb
  clear hb
  have q1 : C.length = L.length := (by omega)
  have q1b : ((C.length : Int) == (L.length : Int)) = true := beq_iff_eq.2 (by omega)
  have q1n : ((C.length : Int) != (L.length : Int)) = false := bne_eq_false_iff_eq.2 (by omega)
  have q1H := Lib.hid q1
  clear q1
  go_wp2
  refine Code.abs ?_
  intro w3 hW
  have hG : Gr [] w2 w3 := by rw [hW]; exact (Gr.refl _ _).alloc
  have hbw : Below w.heap.size w2 w3 := hG.below0 hs.size
  have hk : KeepD w2 w3 := hG.keep True.intro
  have sz_w3 : w.heap.size ≤ w2.heap.size := hs.size
  have nk_w3 : w.heap.size < w2.heap.size := Blk.lt
  have nhc_w3 : bhc < w2.heap.size := hc.lt (by omega)
  have Blsum : Bx w3 (w2.heap.size) 29 #[.bool false, .slice none 0 0, .slice none 0 0] := by rw [hW]; exact (Bx.new0 _ _ _)
  replace hs := hs.trans hbw
  replace hc := rowsJ PC.kept _ _ _ hc (hG.below0 (Nat.le_refl _))
  replace Blk := hG.bx Blk notMem0
  clear hW hG hk hbw
  have hz_w3 : w2.heap.size < w3.heap.size := Blsum.lt
  go_loopw [25] (fun s25 wq => ∃ k : Nat, k ≤ L.length ∧ s25 = .int .i64 k ∧ Below w.heap.size w wq ∧ Bx wq (w.heap.size) 29 #[.bool false, .slice none 0 0, .slice none 0 0] ∧ Rows 3 29 PC wq (.slice (some ⟨bhc, ohc, none⟩) C.length khc) C ∧ BoxP wq (w2.heap.size) (mfK L C k)) (fun s25 _ => L.length - (intOf s25).toNat)
  case atStart => exact ⟨0, Nat.zero_le _, rfl, hs, Blk, hc, ⟨_, _, _, _, _, _, _, Blsum, ((PV.zero _).of_eq mfK_zero.symm)⟩⟩
  case round =>
    clear Blk Blsum hc hs
    obtain ⟨k, k_le, rfl, hs, Blk, hc, ⟨sh2, ah2, nh2, ch2, Ah2, Nh2, Ch2, Blsum, h2⟩⟩ := hrel
    by_cases q3 : k < L.length
    · have q3d : ((k : Int) < (L.length : Int)) = True := eq_true (by omega)
      obtain ⟨Ee40, Ee41, le4⟩ := rowClI_at (HLI.out.mono ClC.kept hs) (show k < L.length by omega)
      obtain ⟨te4, Hte4⟩ : ∃ z : Int, z = (clAt L k).1 := ⟨_, rfl⟩
      obtain ⟨fe4, Hfe4⟩ : ∃ z : Int, z = (clAt L k).2 := ⟨_, rfl⟩
      rw [← Hte4] at Ee40
      rw [← Hfe4] at Ee41
      obtain ⟨bte4a, bte4b, bfe4a, bfe4b⟩ : 1 ≤ te4 ∧ te4 ≤ 64 ∧ 0 ≤ fe4 ∧ fe4 ≤ te4 := by rw [Hte4, Hfe4]; exact HOK.out _ (List.mem_of_getElem? (clAt_some (by omega)))
      replace Hte4 := Lib.hid Hte4.symm
      replace Hfe4 := Lib.hid Hfe4.symm
      go_upto_region 10 with fail
      clear le4 Ee40 Ee41
      refine Code.abs ?_
      intro w24 hW
      have hG : Gr [] wr w24 := by rw [hW]; exact (Gr.refl _ _).alloc
      have hbw : Below w.heap.size wr w24 := hG.below0 hs.size
      have hk : KeepD wr w24 := hG.keep True.intro
      have sz_w24 : w.heap.size ≤ wr.heap.size := hs.size
      have nk_w24 : w.heap.size < wr.heap.size := Blk.lt
      have nsum_w24 : w2.heap.size < wr.heap.size := Blsum.lt
      have nhc_w24 : bhc < wr.heap.size := hc.lt (by omega)
      have Blc : Bx w24 (wr.heap.size) 57 #[.int .i64 te4, .int .i64 fe4] := by rw [hW]; exact (Bx.new0 _ _ _)
      replace hs := hs.trans hbw
      replace hc := rowsJ PC.kept _ _ _ hc (hG.below0 (Nat.le_refl _))
      replace Blk := hG.bx Blk notMem0
      replace Blsum := hG.bx Blsum notMem0
      replace h2 := h2.keep hk
      clear hW hG hk hbw
      have hz_w24 : wr.heap.size < w24.heap.size := Blc.lt
      have BI6a : k < C.length := by omega
      have BI6b : ((k : Int) : Int) < (C.length : Int) := by omega
      obtain ⟨ge7a, ae7a, ne7a, ce7a, Ae7a, Ne7a, De7a, Ee70, Ee71, Ee72, he7a, le7⟩ := rowP_at hc (show k < C.length by omega)
      go_cut [10] (fun kv0 wz => ∃ gd sh8 ah8 nh8 ch8 Ah8 Nh8 Ch8, kv0 = .pointer (some ⟨gd, 0, none⟩) ∧ w.heap.size ≤ gd ∧ gd ≠ w.heap.size ∧ gd ≠ w2.heap.size ∧ gd ≠ wr.heap.size ∧ bhc ≠ gd ∧ Bx wz gd 29 #[.bool sh8, .slice ah8 nh8 ch8, .slice Ah8 Nh8 Ch8] ∧ Below w.heap.size w wz ∧ Bx wz (w.heap.size) 29 #[.bool false, .slice none 0 0, .slice none 0 0] ∧ Bx wz (w2.heap.size) 29 #[.bool sh2, .slice ah2 nh2 ch2, .slice Ah2 Nh2 Ch2] ∧ Bx wz (wr.heap.size) 57 #[.int .i64 te4, .int .i64 fe4] ∧ PV wz (.agg #[.bool sh2, .slice ah2 nh2 ch2, .slice Ah2 Nh2 Ch2]) (mfK L C k) ∧ PV wz (.agg #[.bool ge7a, .slice ae7a ne7a ce7a, .slice Ae7a Ne7a De7a]) (nthQ C k) ∧ PV wz (.agg #[.bool sh8, .slice ah8 nh8 ch8, .slice Ah8 Nh8 Ch8]) ((shQ (te4, fe4)) - nthQ C k) ∧ Rows 3 29 PC wz (.slice (some ⟨bhc, ohc, none⟩) C.length khc) C)
      case first =>
        refine U_region (S := fun w' => w'.cell? ⟨wr.heap.size, 0, none⟩ = some (.int .i64 te4) ∧ w'.cell? ⟨wr.heap.size, 1, none⟩ = some (.int .i64 fe4) ∧ w'.cell? ⟨bhc, ohc + k * 3, none⟩ = some (.bool ge7a) ∧ w'.cell? ⟨bhc, ohc + k * 3 + 1, none⟩ = some (.slice ae7a ne7a ce7a) ∧ w'.cell? ⟨bhc, ohc + k * 3 + 2, none⟩ = some (.slice Ae7a Ne7a De7a)) (by kernel_rfl) 8 ?_
        refine AnyU.abs ?_
        intro w25 hW
        have hb : Below w24.heap.size w24 w25 := by rw [hW]; exact bDrew _
        replace hs := bStep hs hb
        replace Blk := Blk.mono hb
        replace Blsum := Blsum.mono hb
        replace Blc := Blc.mono hb
        replace h2 := h2.mono hb
        replace he7a := he7a.mono hb
        replace hc := rowsJ PC.kept _ _ _ hc hb
        replace Ee70 := cellK Ee70 hb
        replace Ee71 := cellK Ee71 hb
        replace Ee72 := cellK Ee72 hb
        clear hb hW
        have cc_0 : w25.cell? ⟨wr.heap.size, 0, none⟩ = some (.int .i64 te4) := Blc.at 0 rfl
        have cc_1 : w25.cell? ⟨wr.heap.size, 1, none⟩ = some (.int .i64 fe4) := Blc.at 1 rfl
        have hH := (show w25.cell? ⟨wr.heap.size, 0, none⟩ = some (.int .i64 te4) ∧ w25.cell? ⟨wr.heap.size, 1, none⟩ = some (.int .i64 fe4) ∧ w25.cell? ⟨bhc, ohc + k * 3, none⟩ = some (.bool ge7a) ∧ w25.cell? ⟨bhc, ohc + k * 3 + 1, none⟩ = some (.slice ae7a ne7a ce7a) ∧ w25.cell? ⟨bhc, ohc + k * 3 + 2, none⟩ = some (.slice Ae7a Ne7a De7a) from ⟨cc_0, cc_1, Ee70, Ee71, Ee72⟩)
        refine U_tt 0 ?_ ?_ hH ?_
        rotate_left
        · (intro w hSw; (try dsimp only at hSw); go_simp; try with_reducible rfl)
        try simp only [LY]
        refine U_tt 2 ?_ ?_ hH ?_
        rotate_left
        · (intro w hSw; (try dsimp only at hSw); go_simp; try with_reducible rfl)
        try simp only [LY]
        refine U_tt 3 ?_ ?_ hH ?_
        rotate_left
        · (intro w hSw; (try dsimp only at hSw); go_simp; try with_reducible rfl)
        try simp only [LY]
        refine U_tt 4 ?_ ?_ hH ?_
        rotate_left
        · (intro w hSw; (try dsimp only at hSw); go_simp; try with_reducible rfl)
        try simp only [LY]
        refine U_tt 5 ?_ ?_ hH ?_
        rotate_left
        · (intro w hSw; (try dsimp only at hSw); go_simp; try with_reducible rfl)
        try simp only [LY]
        refine U_two (i := 1) (j := 7) (by kernel_rfl) rfl rfl (fun K hK => ?_) (fun K hK => ?_)
        · clear hH
          go_simp
          (with_reducible refine (cl_share (t := te4) (f := fe4) _ (by omega) (by omega) (by omega) (by omega)).mono ?_)
          rintro e w26 ⟨_, rfl, h5, hb⟩
          obtain ⟨sh5, ah5, nh5, ch5, Ah5, Nh5, Ch5, rfl⟩ := h5.shape
          replace hs := bStep hs hb
          replace Blk := Blk.mono hb
          replace Blsum := Blsum.mono hb
          replace Blc := Blc.mono hb
          replace h2 := h2.mono hb
          replace he7a := he7a.mono hb
          replace hc := rowsJ PC.kept _ _ _ hc hb
          replace cc_0 := cellK cc_0 hb
          replace cc_1 := cellK cc_1 hb
          replace Ee70 := cellK Ee70 hb
          replace Ee71 := cellK Ee71 hb
          replace Ee72 := cellK Ee72 hb
          clear hb
          try go_wp2_with fail
          refine hK.out _ _ ⟨cc_0, cc_1, Ee70, Ee71, Ee72⟩ (fun hH => ?_)
          clear hK K
          try simp only [LY]
          refine U_two (i := 6) (j := 7) (by kernel_rfl) rfl rfl (fun K hK => ?_) (fun K hK => ?_)
          · clear hH
            go_simp
            (with_reducible refine (pSub h5 he7a (SzQ.fit (szQ_frac (by omega) (by omega) (by omega))) (SzQ.fit (HCZ.out k (by omega)))).mono ?_)
            rintro e w27 ⟨_, rfl, h8, hb⟩
            obtain ⟨sh8, ah8, nh8, ch8, Ah8, Nh8, Ch8, rfl⟩ := h8.shape
            replace hs := bStep hs hb
            replace Blk := Blk.mono hb
            replace Blsum := Blsum.mono hb
            replace Blc := Blc.mono hb
            replace h2 := h2.mono hb
            replace he7a := he7a.mono hb
            replace h5 := h5.mono hb
            replace hc := rowsJ PC.kept _ _ _ hc hb
            replace cc_0 := cellK cc_0 hb
            replace cc_1 := cellK cc_1 hb
            replace Ee70 := cellK Ee70 hb
            replace Ee71 := cellK Ee71 hb
            replace Ee72 := cellK Ee72 hb
            clear hb
            try go_wp2_with fail
            refine hK.out _ _ ⟨cc_0, cc_1, Ee70, Ee71, Ee72⟩ (fun hH => ?_)
            clear hK K
            try simp only [LY]
            clear hH
            refine U_one (i := 7) (by kernel_rfl) rfl (fun K hK => ?_)
            go_simp
            generalize hWn : (w27.alloc (.cells #[.bool false, .slice none 0 0, .slice none 0 0] 29)) = w28
            have hb : Below w27.heap.size w27 w28 := by rw [← hWn]; exact (Below.refl _ _).alloc (Nat.le_refl _) _
            have Bld : Bx w28 (w27.heap.size) 29 #[.bool false, .slice none 0 0, .slice none 0 0] := by rw [← hWn]; exact Bx.new _ _ _
            have nk_d : w.heap.size ≠ w27.heap.size := by have := Blk.lt; omega
            have nsum_d : w2.heap.size ≠ w27.heap.size := by have := Blsum.lt; omega
            have nc_d : wr.heap.size ≠ w27.heap.size := by have := Blc.lt; omega
            have nhc_d : bhc < w27.heap.size := hc.lt (by omega)
            have sz_d : w.heap.size ≤ w27.heap.size := hs.size
            replace hs := bStep hs hb
            replace Blk := Blk.mono hb
            replace Blsum := Blsum.mono hb
            replace Blc := Blc.mono hb
            replace h2 := h2.mono hb
            replace he7a := he7a.mono hb
            replace h5 := h5.mono hb
            replace h8 := h8.mono hb
            replace hc := rowsJ PC.kept _ _ _ hc hb
            replace cc_0 := cellK cc_0 hb
            replace cc_1 := cellK cc_1 hb
            replace Ee70 := cellK Ee70 hb
            replace Ee71 := cellK Ee71 hb
            replace Ee72 := cellK Ee72 hb
            clear hb hWn
            refine hK.out _ _ ⟨cc_0, cc_1, Ee70, Ee71, Ee72⟩ (fun hH => ?_)
            clear hK K
            try simp only [LY]
            clear hH
            have cd_0 : w28.cell? ⟨w27.heap.size, 0, none⟩ = some (.bool false) := Bld.at 0 rfl
            have cd_1 : w28.cell? ⟨w27.heap.size, 1, none⟩ = some (.slice none 0 0) := Bld.at 1 rfl
            have cd_2 : w28.cell? ⟨w27.heap.size, 2, none⟩ = some (.slice none 0 0) := Bld.at 2 rfl
            have fd := Bld.free
            have Ld : w27.heap.size < w28.heap.size := Bld.lt
            refine U_last (by kernel_rfl) rfl (by kernel_rfl) (fun K hK => ?_)
            go_simp
            refine hK.out _ _ ?_
            clear hK K
            intro w29 hW
            have hG : Gr [w27.heap.size] w28 w29 := by rw [hW]; exact (Gr.refl _ _).set.set.set
            have hsz := hs.size
            have ld := Bld.lt
            have hbw : Below w.heap.size w28 w29 := hG.below1 hs.size (by first | omega | assumption)
            have hk : KeepD w28 w29 := hG.keep ⟨⟨_, Bld.ty, by decide⟩, True.intro⟩
            have Bl1d : Bx w29 (w27.heap.size) 29 #[.bool sh8, .slice ah8 nh8 ch8, .slice Ah8 Nh8 Ch8] := by rw [hW]; exact Bld.set3
            replace hs := hs.trans hbw
            replace hc := hc.gr PC.kept hG (notMem1 (by omega)) hk
            replace Blk := hG.bx Blk (notMem1 (by omega))
            replace Blsum := hG.bx Blsum (notMem1 (by omega))
            replace Blc := hG.bx Blc (notMem1 (by omega))
            replace Bld := Bl1d
            clear Bl1d
            replace h2 := h2.keep hk
            replace he7a := he7a.keep hk
            replace h5 := h5.keep hk
            replace h8 := h8.keep hk
            clear hW hG hk hbw hsz ld
            try simp only [LY]
            clear cc_0 cc_1 Ee70 Ee71 Ee72
            go_wp2_with fail
            go_meet
            exact ⟨w27.heap.size, _, _, _, _, _, _, _, rfl, (by first | exact sz_d | omega), (by omega), (by omega), (by omega), (by omega), Bld, hs, Blk, Blsum, Blc, h2, he7a, h8, hc⟩
          · clear hH
            go_simp
            generalize hWn : (w26.alloc (.cells #[.bool false, .slice none 0 0, .slice none 0 0] 29)) = w27
            have hb : Below w26.heap.size w26 w27 := by rw [← hWn]; exact (Below.refl _ _).alloc (Nat.le_refl _) _
            have Bld : Bx w27 (w26.heap.size) 29 #[.bool false, .slice none 0 0, .slice none 0 0] := by rw [← hWn]; exact Bx.new _ _ _
            have nk_d : w.heap.size ≠ w26.heap.size := by have := Blk.lt; omega
            have nsum_d : w2.heap.size ≠ w26.heap.size := by have := Blsum.lt; omega
            have nc_d : wr.heap.size ≠ w26.heap.size := by have := Blc.lt; omega
            have nhc_d : bhc < w26.heap.size := hc.lt (by omega)
            have sz_d : w.heap.size ≤ w26.heap.size := hs.size
            replace hs := bStep hs hb
            replace Blk := Blk.mono hb
            replace Blsum := Blsum.mono hb
            replace Blc := Blc.mono hb
            replace h2 := h2.mono hb
            replace he7a := he7a.mono hb
            replace h5 := h5.mono hb
            replace hc := rowsJ PC.kept _ _ _ hc hb
            replace cc_0 := cellK cc_0 hb
            replace cc_1 := cellK cc_1 hb
            replace Ee70 := cellK Ee70 hb
            replace Ee71 := cellK Ee71 hb
            replace Ee72 := cellK Ee72 hb
            clear hb hWn
            refine hK.out _ _ ⟨cc_0, cc_1, Ee70, Ee71, Ee72⟩ (fun hH => ?_)
            clear hK K
            try simp only [LY]
            clear hH
            refine U_one (i := 6) (by kernel_rfl) rfl (fun K hK => ?_)
            go_simp
            (with_reducible refine (pSub h5 he7a (SzQ.fit (szQ_frac (by omega) (by omega) (by omega))) (SzQ.fit (HCZ.out k (by omega)))).mono ?_)
            rintro e w28 ⟨_, rfl, h8, hb⟩
            obtain ⟨sh8, ah8, nh8, ch8, Ah8, Nh8, Ch8, rfl⟩ := h8.shape
            replace hs := bStep hs hb
            replace Blk := Blk.mono hb
            replace Blsum := Blsum.mono hb
            replace Blc := Blc.mono hb
            replace Bld := Bld.mono hb
            replace h2 := h2.mono hb
            replace he7a := he7a.mono hb
            replace h5 := h5.mono hb
            replace hc := rowsJ PC.kept _ _ _ hc hb
            replace cc_0 := cellK cc_0 hb
            replace cc_1 := cellK cc_1 hb
            replace Ee70 := cellK Ee70 hb
            replace Ee71 := cellK Ee71 hb
            replace Ee72 := cellK Ee72 hb
            clear hb
            try go_wp2_with fail
            refine hK.out _ _ ⟨cc_0, cc_1, Ee70, Ee71, Ee72⟩ (fun hH => ?_)
            clear hK K
            try simp only [LY]
            clear hH
            have cd_0 : w28.cell? ⟨w26.heap.size, 0, none⟩ = some (.bool false) := Bld.at 0 rfl
            have cd_1 : w28.cell? ⟨w26.heap.size, 1, none⟩ = some (.slice none 0 0) := Bld.at 1 rfl
            have cd_2 : w28.cell? ⟨w26.heap.size, 2, none⟩ = some (.slice none 0 0) := Bld.at 2 rfl
            have fd := Bld.free
            have Ld : w26.heap.size < w28.heap.size := Bld.lt
            refine U_last (by kernel_rfl) rfl (by kernel_rfl) (fun K hK => ?_)
            go_simp
            refine hK.out _ _ ?_
            clear hK K
            intro w29 hW
            have hG : Gr [w26.heap.size] w28 w29 := by rw [hW]; exact (Gr.refl _ _).set.set.set
            have hsz := hs.size
            have ld := Bld.lt
            have hbw : Below w.heap.size w28 w29 := hG.below1 hs.size (by first | omega | assumption)
            have hk : KeepD w28 w29 := hG.keep ⟨⟨_, Bld.ty, by decide⟩, True.intro⟩
            have Bl1d : Bx w29 (w26.heap.size) 29 #[.bool sh8, .slice ah8 nh8 ch8, .slice Ah8 Nh8 Ch8] := by rw [hW]; exact Bld.set3
            replace hs := hs.trans hbw
            replace hc := hc.gr PC.kept hG (notMem1 (by omega)) hk
            replace Blk := hG.bx Blk (notMem1 (by omega))
            replace Blsum := hG.bx Blsum (notMem1 (by omega))
            replace Blc := hG.bx Blc (notMem1 (by omega))
            replace Bld := Bl1d
            clear Bl1d
            replace h2 := h2.keep hk
            replace he7a := he7a.keep hk
            replace h5 := h5.keep hk
            replace h8 := h8.keep hk
            clear hW hG hk hbw hsz ld
            try simp only [LY]
            clear cc_0 cc_1 Ee70 Ee71 Ee72
            go_wp2_with fail
            go_meet
            exact ⟨w26.heap.size, _, _, _, _, _, _, _, rfl, (by first | exact sz_d | omega), (by omega), (by omega), (by omega), (by omega), Bld, hs, Blk, Blsum, Blc, h2, he7a, h8, hc⟩
        · clear hH
          go_simp
          generalize hWn : (w25.alloc (.cells #[.bool false, .slice none 0 0, .slice none 0 0] 29)) = w26
          have hb : Below w25.heap.size w25 w26 := by rw [← hWn]; exact (Below.refl _ _).alloc (Nat.le_refl _) _
          have Bld : Bx w26 (w25.heap.size) 29 #[.bool false, .slice none 0 0, .slice none 0 0] := by rw [← hWn]; exact Bx.new _ _ _
          have nk_d : w.heap.size ≠ w25.heap.size := by have := Blk.lt; omega
          have nsum_d : w2.heap.size ≠ w25.heap.size := by have := Blsum.lt; omega
          have nc_d : wr.heap.size ≠ w25.heap.size := by have := Blc.lt; omega
          have nhc_d : bhc < w25.heap.size := hc.lt (by omega)
          have sz_d : w.heap.size ≤ w25.heap.size := hs.size
          replace hs := bStep hs hb
          replace Blk := Blk.mono hb
          replace Blsum := Blsum.mono hb
          replace Blc := Blc.mono hb
          replace h2 := h2.mono hb
          replace he7a := he7a.mono hb
          replace hc := rowsJ PC.kept _ _ _ hc hb
          replace cc_0 := cellK cc_0 hb
          replace cc_1 := cellK cc_1 hb
          replace Ee70 := cellK Ee70 hb
          replace Ee71 := cellK Ee71 hb
          replace Ee72 := cellK Ee72 hb
          clear hb hWn
          refine hK.out _ _ ⟨cc_0, cc_1, Ee70, Ee71, Ee72⟩ (fun hH => ?_)
          clear hK K
          try simp only [LY]
          clear hH
          refine U_one (i := 1) (by kernel_rfl) rfl (fun K hK => ?_)
          go_simp
          (with_reducible refine (cl_share (t := te4) (f := fe4) _ (by omega) (by omega) (by omega) (by omega)).mono ?_)
          rintro e w27 ⟨_, rfl, h5, hb⟩
          obtain ⟨sh5, ah5, nh5, ch5, Ah5, Nh5, Ch5, rfl⟩ := h5.shape
          replace hs := bStep hs hb
          replace Blk := Blk.mono hb
          replace Blsum := Blsum.mono hb
          replace Blc := Blc.mono hb
          replace Bld := Bld.mono hb
          replace h2 := h2.mono hb
          replace he7a := he7a.mono hb
          replace hc := rowsJ PC.kept _ _ _ hc hb
          replace cc_0 := cellK cc_0 hb
          replace cc_1 := cellK cc_1 hb
          replace Ee70 := cellK Ee70 hb
          replace Ee71 := cellK Ee71 hb
          replace Ee72 := cellK Ee72 hb
          clear hb
          try go_wp2_with fail
          refine hK.out _ _ ⟨cc_0, cc_1, Ee70, Ee71, Ee72⟩ (fun hH => ?_)
          clear hK K
          try simp only [LY]
          clear hH
          refine U_one (i := 6) (by kernel_rfl) rfl (fun K hK => ?_)
          go_simp
          (with_reducible refine (pSub h5 he7a (SzQ.fit (szQ_frac (by omega) (by omega) (by omega))) (SzQ.fit (HCZ.out k (by omega)))).mono ?_)
          rintro e w28 ⟨_, rfl, h8, hb⟩
          obtain ⟨sh8, ah8, nh8, ch8, Ah8, Nh8, Ch8, rfl⟩ := h8.shape
          replace hs := bStep hs hb
          replace Blk := Blk.mono hb
          replace Blsum := Blsum.mono hb
          replace Blc := Blc.mono hb
          replace Bld := Bld.mono hb
          replace h2 := h2.mono hb
          replace he7a := he7a.mono hb
          replace h5 := h5.mono hb
          replace hc := rowsJ PC.kept _ _ _ hc hb
          replace cc_0 := cellK cc_0 hb
          replace cc_1 := cellK cc_1 hb
          replace Ee70 := cellK Ee70 hb
          replace Ee71 := cellK Ee71 hb
          replace Ee72 := cellK Ee72 hb
          clear hb
          try go_wp2_with fail
          refine hK.out _ _ ⟨cc_0, cc_1, Ee70, Ee71, Ee72⟩ (fun hH => ?_)
          clear hK K
          try simp only [LY]
          clear hH
          have cd_0 : w28.cell? ⟨w25.heap.size, 0, none⟩ = some (.bool false) := Bld.at 0 rfl
          have cd_1 : w28.cell? ⟨w25.heap.size, 1, none⟩ = some (.slice none 0 0) := Bld.at 1 rfl
          have cd_2 : w28.cell? ⟨w25.heap.size, 2, none⟩ = some (.slice none 0 0) := Bld.at 2 rfl
          have fd := Bld.free
          have Ld : w25.heap.size < w28.heap.size := Bld.lt
          refine U_last (by kernel_rfl) rfl (by kernel_rfl) (fun K hK => ?_)
          go_simp
          refine hK.out _ _ ?_
          clear hK K
          intro w29 hW
          have hG : Gr [w25.heap.size] w28 w29 := by rw [hW]; exact (Gr.refl _ _).set.set.set
          have hsz := hs.size
          have ld := Bld.lt
          have hbw : Below w.heap.size w28 w29 := hG.below1 hs.size (by first | omega | assumption)
          have hk : KeepD w28 w29 := hG.keep ⟨⟨_, Bld.ty, by decide⟩, True.intro⟩
          have Bl1d : Bx w29 (w25.heap.size) 29 #[.bool sh8, .slice ah8 nh8 ch8, .slice Ah8 Nh8 Ch8] := by rw [hW]; exact Bld.set3
          replace hs := hs.trans hbw
          replace hc := hc.gr PC.kept hG (notMem1 (by omega)) hk
          replace Blk := hG.bx Blk (notMem1 (by omega))
          replace Blsum := hG.bx Blsum (notMem1 (by omega))
          replace Blc := hG.bx Blc (notMem1 (by omega))
          replace Bld := Bl1d
          clear Bl1d
          replace h2 := h2.keep hk
          replace he7a := he7a.keep hk
          replace h5 := h5.keep hk
          replace h8 := h8.keep hk
          clear hW hG hk hbw hsz ld
          try simp only [LY]
          clear cc_0 cc_1 Ee70 Ee71 Ee72
          go_wp2_with fail
          go_meet
          exact ⟨w25.heap.size, _, _, _, _, _, _, _, rfl, (by first | exact sz_d | omega), (by omega), (by omega), (by omega), (by omega), Bld, hs, Blk, Blsum, Blc, h2, he7a, h8, hc⟩
      case rest =>
        clear hs Ee70 Ee71 Ee72 Blk Blsum Blc h2 he7a hc
        obtain ⟨gd, sh8, ah8, nh8, ch8, Ah8, Nh8, Ch8, rfl, hg_d, ng_d_k, ng_d_sum, ng_d_c, ngr_d_hc, Bld, hs, Blk, Blsum, Blc, h2, he7a, h8, hc⟩ := hcut
        go_upto_region 11 with fail
        refine U_region (S := fun w' => w'.cell? ⟨w2.heap.size, 0, none⟩ = some (.bool sh2) ∧ w'.cell? ⟨w2.heap.size, 1, none⟩ = some (.slice ah2 nh2 ch2) ∧ w'.cell? ⟨w2.heap.size, 2, none⟩ = some (.slice Ah2 Nh2 Ch2) ∧ w'.cell? ⟨wr.heap.size, 0, none⟩ = some (.int .i64 te4) ∧ w'.cell? ⟨wr.heap.size, 1, none⟩ = some (.int .i64 fe4) ∧ w'.cell? ⟨gd, 0, none⟩ = some (.bool sh8) ∧ w'.cell? ⟨gd, 1, none⟩ = some (.slice ah8 nh8 ch8) ∧ w'.cell? ⟨gd, 2, none⟩ = some (.slice Ah8 Nh8 Ch8)) (by kernel_rfl) 9 ?_
        refine AnyU.abs ?_
        intro w25 hW
        have hb : Below wc.heap.size wc w25 := by rw [hW]; exact bDrew _
        replace hs := bStep hs hb
        replace Blk := Blk.mono hb
        replace Blsum := Blsum.mono hb
        replace Blc := Blc.mono hb
        replace Bld := Bld.mono hb
        replace h2 := h2.mono hb
        replace he7a := he7a.mono hb
        replace h8 := h8.mono hb
        replace hc := rowsJ PC.kept _ _ _ hc hb
        clear hb hW
        have csum_0 : w25.cell? ⟨w2.heap.size, 0, none⟩ = some (.bool sh2) := Blsum.at 0 rfl
        have csum_1 : w25.cell? ⟨w2.heap.size, 1, none⟩ = some (.slice ah2 nh2 ch2) := Blsum.at 1 rfl
        have csum_2 : w25.cell? ⟨w2.heap.size, 2, none⟩ = some (.slice Ah2 Nh2 Ch2) := Blsum.at 2 rfl
        have cc_0 : w25.cell? ⟨wr.heap.size, 0, none⟩ = some (.int .i64 te4) := Blc.at 0 rfl
        have cc_1 : w25.cell? ⟨wr.heap.size, 1, none⟩ = some (.int .i64 fe4) := Blc.at 1 rfl
        have cd_0 : w25.cell? ⟨gd, 0, none⟩ = some (.bool sh8) := Bld.at 0 rfl
        have cd_1 : w25.cell? ⟨gd, 1, none⟩ = some (.slice ah8 nh8 ch8) := Bld.at 1 rfl
        have cd_2 : w25.cell? ⟨gd, 2, none⟩ = some (.slice Ah8 Nh8 Ch8) := Bld.at 2 rfl
        have hH := (show w25.cell? ⟨w2.heap.size, 0, none⟩ = some (.bool sh2) ∧ w25.cell? ⟨w2.heap.size, 1, none⟩ = some (.slice ah2 nh2 ch2) ∧ w25.cell? ⟨w2.heap.size, 2, none⟩ = some (.slice Ah2 Nh2 Ch2) ∧ w25.cell? ⟨wr.heap.size, 0, none⟩ = some (.int .i64 te4) ∧ w25.cell? ⟨wr.heap.size, 1, none⟩ = some (.int .i64 fe4) ∧ w25.cell? ⟨gd, 0, none⟩ = some (.bool sh8) ∧ w25.cell? ⟨gd, 1, none⟩ = some (.slice ah8 nh8 ch8) ∧ w25.cell? ⟨gd, 2, none⟩ = some (.slice Ah8 Nh8 Ch8) from ⟨csum_0, csum_1, csum_2, cc_0, cc_1, cd_0, cd_1, cd_2⟩)
        refine U_tt 0 ?_ ?_ hH ?_
        rotate_left
        · (intro w hSw; (try dsimp only at hSw); go_simp; try with_reducible rfl)
        try simp only [LY]
        refine U_tt 1 ?_ ?_ hH ?_
        rotate_left
        · (intro w hSw; (try dsimp only at hSw); go_simp; try with_reducible rfl)
        try simp only [LY]
        refine U_tt 2 ?_ ?_ hH ?_
        rotate_left
        · (intro w hSw; (try dsimp only at hSw); go_simp; try with_reducible rfl)
        try simp only [LY]
        refine U_tt 4 ?_ ?_ hH ?_
        rotate_left
        · (intro w hSw; (try dsimp only at hSw); go_simp; try with_reducible rfl)
        try simp only [LY]
        refine U_tt 6 ?_ ?_ hH ?_
        rotate_left
        · (intro w hSw; (try dsimp only at hSw); go_simp; try with_reducible rfl)
        try simp only [LY]
        clear hH
        refine U_one (i := 3) (by kernel_rfl) rfl (fun K hK => ?_)
        go_simp
        (with_reducible refine (al_whole te4 _ (by omega) (by omega)).mono ?_)
        rintro e w26 ⟨_, rfl, h9, hb⟩
        obtain ⟨sh9, ah9, nh9, ch9, Ah9, Nh9, Ch9, rfl⟩ := h9.shape
        replace hs := bStep hs hb
        replace Blk := Blk.mono hb
        replace Blsum := Blsum.mono hb
        replace Blc := Blc.mono hb
        replace Bld := Bld.mono hb
        replace h2 := h2.mono hb
        replace he7a := he7a.mono hb
        replace h8 := h8.mono hb
        replace hc := rowsJ PC.kept _ _ _ hc hb
        replace csum_0 := cellK csum_0 hb
        replace csum_1 := cellK csum_1 hb
        replace csum_2 := cellK csum_2 hb
        replace cc_0 := cellK cc_0 hb
        replace cc_1 := cellK cc_1 hb
        replace cd_0 := cellK cd_0 hb
        replace cd_1 := cellK cd_1 hb
        replace cd_2 := cellK cd_2 hb
        clear hb
        try go_wp2_with fail
        refine hK.out _ _ ⟨csum_0, csum_1, csum_2, cc_0, cc_1, cd_0, cd_1, cd_2⟩ (fun hH => ?_)
        clear hK K
        try simp only [LY]
        clear hH
        refine U_one (i := 5) (by kernel_rfl) rfl (fun K hK => ?_)
        go_simp
        (with_reducible refine (pMul h9 h8 (SzQ.fit (szQ_int (by omega))) (SzQ.fit (SzQ.sub (szQ_frac (by omega) (by omega) (by omega)) (HCZ.out k (by omega))))).mono ?_)
        rintro e w27 ⟨_, rfl, h10, hb⟩
        obtain ⟨sh10, ah10, nh10, ch10, Ah10, Nh10, Ch10, rfl⟩ := h10.shape
        replace hs := bStep hs hb
        replace Blk := Blk.mono hb
        replace Blsum := Blsum.mono hb
        replace Blc := Blc.mono hb
        replace Bld := Bld.mono hb
        replace h2 := h2.mono hb
        replace he7a := he7a.mono hb
        replace h8 := h8.mono hb
        replace h9 := h9.mono hb
        replace hc := rowsJ PC.kept _ _ _ hc hb
        replace csum_0 := cellK csum_0 hb
        replace csum_1 := cellK csum_1 hb
        replace csum_2 := cellK csum_2 hb
        replace cc_0 := cellK cc_0 hb
        replace cc_1 := cellK cc_1 hb
        replace cd_0 := cellK cd_0 hb
        replace cd_1 := cellK cd_1 hb
        replace cd_2 := cellK cd_2 hb
        clear hb
        try go_wp2_with fail
        refine hK.out _ _ ⟨csum_0, csum_1, csum_2, cc_0, cc_1, cd_0, cd_1, cd_2⟩ (fun hH => ?_)
        clear hK K
        try simp only [LY]
        clear hH
        refine U_one (i := 7) (by kernel_rfl) rfl (fun K hK => ?_)
        go_simp
        (with_reducible refine (pMul h10 h8 (SzQ.fit (SzQ.mul (szQ_int (by omega)) (SzQ.sub (szQ_frac (by omega) (by omega) (by omega)) (HCZ.out k (by omega))))) (SzQ.fit (SzQ.sub (szQ_frac (by omega) (by omega) (by omega)) (HCZ.out k (by omega))))).mono ?_)
        rintro e w28 ⟨_, rfl, h11, hb⟩
        obtain ⟨sh11, ah11, nh11, ch11, Ah11, Nh11, Ch11, rfl⟩ := h11.shape
        replace hs := bStep hs hb
        replace Blk := Blk.mono hb
        replace Blsum := Blsum.mono hb
        replace Blc := Blc.mono hb
        replace Bld := Bld.mono hb
        replace h2 := h2.mono hb
        replace he7a := he7a.mono hb
        replace h8 := h8.mono hb
        replace h9 := h9.mono hb
        replace h10 := h10.mono hb
        replace hc := rowsJ PC.kept _ _ _ hc hb
        replace csum_0 := cellK csum_0 hb
        replace csum_1 := cellK csum_1 hb
        replace csum_2 := cellK csum_2 hb
        replace cc_0 := cellK cc_0 hb
        replace cc_1 := cellK cc_1 hb
        replace cd_0 := cellK cd_0 hb
        replace cd_1 := cellK cd_1 hb
        replace cd_2 := cellK cd_2 hb
        clear hb
        try go_wp2_with fail
        refine hK.out _ _ ⟨csum_0, csum_1, csum_2, cc_0, cc_1, cd_0, cd_1, cd_2⟩ (fun hH => ?_)
        clear hK K
        try simp only [LY]
        clear hH
        refine U_one (i := 8) (by kernel_rfl) rfl (fun K hK => ?_)
        go_simp
        (with_reducible refine (pAdd h2 h11 (SzQ.fit ((HMZ.out k (by omega)).mono (show k * 12 + 1 ≤ 200 by omega))) (SzQ.fit (SzQ.mul (SzQ.mul (szQ_int (by omega)) (SzQ.sub (szQ_frac (by omega) (by omega) (by omega)) (HCZ.out k (by omega)))) (SzQ.sub (szQ_frac (by omega) (by omega) (by omega)) (HCZ.out k (by omega)))))).mono ?_)
        rintro e w29 ⟨_, rfl, h12, hb⟩
        obtain ⟨sh12, ah12, nh12, ch12, Ah12, Nh12, Ch12, rfl⟩ := h12.shape
        replace hs := bStep hs hb
        replace Blk := Blk.mono hb
        replace Blsum := Blsum.mono hb
        replace Blc := Blc.mono hb
        replace Bld := Bld.mono hb
        replace h2 := h2.mono hb
        replace he7a := he7a.mono hb
        replace h8 := h8.mono hb
        replace h9 := h9.mono hb
        replace h10 := h10.mono hb
        replace h11 := h11.mono hb
        replace hc := rowsJ PC.kept _ _ _ hc hb
        replace csum_0 := cellK csum_0 hb
        replace csum_1 := cellK csum_1 hb
        replace csum_2 := cellK csum_2 hb
        replace cc_0 := cellK cc_0 hb
        replace cc_1 := cellK cc_1 hb
        replace cd_0 := cellK cd_0 hb
        replace cd_1 := cellK cd_1 hb
        replace cd_2 := cellK cd_2 hb
        clear hb
        try go_wp2_with fail
        refine hK.out _ _ ⟨csum_0, csum_1, csum_2, cc_0, cc_1, cd_0, cd_1, cd_2⟩ (fun hH => ?_)
        clear hK K
        try simp only [LY]
        clear hH
        have csum_0 : w29.cell? ⟨w2.heap.size, 0, none⟩ = some (.bool sh2) := Blsum.at 0 rfl
        have csum_1 : w29.cell? ⟨w2.heap.size, 1, none⟩ = some (.slice ah2 nh2 ch2) := Blsum.at 1 rfl
        have csum_2 : w29.cell? ⟨w2.heap.size, 2, none⟩ = some (.slice Ah2 Nh2 Ch2) := Blsum.at 2 rfl
        have fsum := Blsum.free
        have Lsum : w2.heap.size < w29.heap.size := Blsum.lt
        refine U_last (by kernel_rfl) rfl (by kernel_rfl) (fun K hK => ?_)
        go_simp
        refine hK.out _ _ ?_
        clear hK K
        intro w30 hW
        have hG : Gr [w2.heap.size] w29 w30 := by rw [hW]; exact (Gr.refl _ _).set.set.set
        have hsz := hs.size
        have lsum := Blsum.lt
        have hbw : Below w.heap.size w29 w30 := hG.below1 hs.size (by first | omega | assumption)
        have hk : KeepD w29 w30 := hG.keep ⟨⟨_, Blsum.ty, by decide⟩, True.intro⟩
        have Bl1sum : Bx w30 (w2.heap.size) 29 #[.bool sh12, .slice ah12 nh12 ch12, .slice Ah12 Nh12 Ch12] := by rw [hW]; exact Blsum.set3
        replace hs := hs.trans hbw
        replace hc := hc.gr PC.kept hG (notMem1 (by omega)) hk
        replace Blk := hG.bx Blk (notMem1 (by omega))
        replace Blc := hG.bx Blc (notMem1 (by omega))
        replace Bld := hG.bx Bld (notMem1 (by omega))
        replace Blsum := Bl1sum
        clear Bl1sum
        replace h2 := h2.keep hk
        replace he7a := he7a.keep hk
        replace h8 := h8.keep hk
        replace h9 := h9.keep hk
        replace h10 := h10.keep hk
        replace h11 := h11.keep hk
        replace h12 := h12.keep hk
        clear hW hG hk hbw hsz lsum
        try simp only [LY]
        clear csum_0 csum_1 csum_2 cc_0 cc_1 cd_0 cd_1 cd_2
        go_wp2
        go_roundw
        case rel => exact ⟨k + 1, by omega, by go_num, hs, Blk, hc, ⟨_, _, _, _, _, _, _, Blsum, h12.of_eq (mfK_next (by omega) (by omega) Hte4.out Hfe4.out)⟩⟩
        all_goals first | (simp [intOf]; done) | (simp [intOf]; omega)
    · have q3d : ((k : Int) < (L.length : Int)) = False := eq_false (by omega)
      obtain rfl : k = L.length := by omega
      have csum_0 : wr.cell? ⟨w2.heap.size, 0, none⟩ = some (.bool sh2) := Blsum.at 0 rfl
      have csum_1 : wr.cell? ⟨w2.heap.size, 1, none⟩ = some (.slice ah2 nh2 ch2) := Blsum.at 1 rfl
      have csum_2 : wr.cell? ⟨w2.heap.size, 2, none⟩ = some (.slice Ah2 Nh2 Ch2) := Blsum.at 2 rfl
      have Lsum : w2.heap.size < wr.heap.size := Blsum.lt
      have ck_0 : wr.cell? ⟨w.heap.size, 0, none⟩ = some (.bool false) := Blk.at 0 rfl
      have ck_1 : wr.cell? ⟨w.heap.size, 1, none⟩ = some (.slice none 0 0) := Blk.at 1 rfl
      have ck_2 : wr.cell? ⟨w.heap.size, 2, none⟩ = some (.slice none 0 0) := Blk.at 2 rfl
      have fk := Blk.free
      have Lk : w.heap.size < wr.heap.size := Blk.lt
      go_wp2
      clear csum_0 csum_1 csum_2 ck_0 ck_1 ck_2 fk Lsum Lk
      refine bodyPost.abs ?_
      intro w24 hW
      have hG : Gr [w.heap.size] wr w24 := by rw [hW]; exact (Gr.refl _ _).set.set.set
      have hsz := hs.size
      have lk := Blk.lt
      have hbw : Below w.heap.size wr w24 := hG.below1 hs.size (by first | omega | assumption)
      have hk : KeepD wr w24 := hG.keep ⟨⟨_, Blk.ty, by decide⟩, True.intro⟩
      have Bl1k : Bx w24 (w.heap.size) 29 #[.bool sh2, .slice ah2 nh2 ch2, .slice Ah2 Nh2 Ch2] := by rw [hW]; exact Blk.set3
      replace hs := hs.trans hbw
      replace hc := hc.gr PC.kept hG (notMem1 (by omega)) hk
      replace Blsum := hG.bx Blsum (notMem1 (by omega))
      replace Blk := Bl1k
      clear Bl1k
      replace h2 := h2.keep hk
      clear hW hG hk hbw hsz lk
      have ck_0 : w24.cell? ⟨w.heap.size, 0, none⟩ = some (.bool sh2) := Blk.at 0 rfl
      have ck_1 : w24.cell? ⟨w.heap.size, 1, none⟩ = some (.slice ah2 nh2 ch2) := Blk.at 1 rfl
      have ck_2 : w24.cell? ⟨w.heap.size, 2, none⟩ = some (.slice Ah2 Nh2 Ch2) := Blk.at 2 rfl
      exact bodyPost_ret (v := .tuple #[.agg #[.bool sh2, .slice ah2 nh2 ch2, .slice Ah2 Nh2 Ch2], .int .i64 0]) (by simp [results, Tryz.results37, go_sem, ck_0, ck_1, ck_2]) rfl ⟨_, rfl, h2.of_eq ((mfK_all (by omega)).trans HQ.out), hs⟩

set_option maxRecDepth 100000 in
set_option maxHeartbeats 16000000 in
theorem al_Reliable {v vp vu : Value} {p u : Rat} {L : List Cls} (w : World) (hl : RowsI 2 ClC w v L) (hp : PV w vp p) (sp : SzQ 1 p) (hp1 : 0 ≤ p ∧ p ≤ 1) (hu : PV w vu u) (su : SzQ 1 u) (hu1 : 0 ≤ u ∧ u ≤ 1) (h1 : 1 ≤ L.length) (h16 : L.length ≤ 16) (hok : ∀ c ∈ L, ClOk c) {D : Nat} (hD : relF (prvC L u p) L.length = D) {r1 r2 : Int} (hr1 : r1 = if D = L.length then 0 else (D : Int)) (hr2 : r2 = if D = L.length then 5 else 0) : Calls Tryz.prog 40 #[v, vp, vu] w (RetV w (.tuple #[.int .i64 r1, .int .i64 r2])) := by
  obtain ⟨bhl, ohl, khl, rfl, hl1, hl2⟩ := hl.openI (by omega)
  have HLI := Lib.hid hl
  clear hl
  obtain ⟨shp, ahp, nhp, chp, Ahp, Nhp, Chp, rfl⟩ := hp.shape
  obtain ⟨shu, ahu, nhu, chu, Ahu, Nhu, Chu, rfl⟩ := hu.shape
  have HE1 := Lib.hid hr1
  have HE2 := Lib.hid hr2
  have HOK := Lib.hid hok
  have HD := Lib.hid hD
  have HP := Lib.hid hp1
  have HU := Lib.hid hu1
  clear hok hD hp1 hu1 hr1 hr2
  have hs := Below.refl w.heap.size w
  go_enter Tryz.func40, Tryz.ntmps40
  go_wp2_with fail
  refine Calls.abs ?_
  intro w1 hW
  have hG : Gr [] w w1 := by rw [hW]; exact (Gr.refl _ _).alloc.alloc
  have hbw : Below w.heap.size w w1 := hG.below0 hs.size
  have hk : KeepD w w1 := hG.keep True.intro
  have sz_w1 : w.heap.size ≤ w.heap.size := hs.size
  have Blchance : Bx w1 (w.heap.size) 29 #[.bool shp, .slice ahp nhp chp, .slice Ahp Nhp Chp] := by rw [hW]; exact ((Bx.new0 _ _ _).alloc _)
  have Blconfidence : Bx w1 (w.heap.size + 1) 29 #[.bool shu, .slice ahu nhu chu, .slice Ahu Nhu Chu] := by rw [hW]; exact (Bx.new0 _ _ _)
  replace hs := hs.trans hbw
  replace hp := hp.keep hk
  replace hu := hu.keep hk
  clear hW hG hk hbw
  have hz_w1 : w.heap.size + 1 < w1.heap.size := Blconfidence.lt
  with_reducible refine (al_checkClasses _ (HLI.out.mono ClC.kept hs) (by omega) (by omega) HOK.out).mono ?_
  rintro e w2 ⟨rfl, hb⟩
  replace hs := bStep hs hb
  replace Blchance := Blchance.mono hb
  replace Blconfidence := Blconfidence.mono hb
  replace hp := hp.mono hb
  replace hu := hu.mono hb
  clear hb
  have cchance_0 : w2.cell? ⟨w.heap.size, 0, none⟩ = some (.bool shp) := Blchance.at 0 rfl
  have cchance_1 : w2.cell? ⟨w.heap.size, 1, none⟩ = some (.slice ahp nhp chp) := Blchance.at 1 rfl
  have cchance_2 : w2.cell? ⟨w.heap.size, 2, none⟩ = some (.slice Ahp Nhp Chp) := Blchance.at 2 rfl
  have Lchance : w.heap.size < w2.heap.size := Blchance.lt
  go_wp2_with fail
  clear cchance_0 cchance_1 cchance_2 Lchance
  with_reducible refine (al_isChance _ _ _ hp (SzQ.mid sp) rfl).mono ?_
  rintro e w3 ⟨rfl, hb⟩
  replace hs := bStep hs hb
  replace Blchance := Blchance.mono hb
  replace Blconfidence := Blconfidence.mono hb
  replace hp := hp.mono hb
  replace hu := hu.mono hb
  clear hb
  obtain ⟨b1, Hb1⟩ : ∃ b : Bool, b = decide (0 ≤ p ∧ p ≤ 1) := ⟨_, rfl⟩
  rw [← Hb1]
  replace Hb1 := Lib.hid Hb1
  have q2 : 0 ≤ p ∧ p ≤ 1 := HP.out
  obtain rfl : b1 = true := by rw [Hb1.out]; exact decide_eq_true q2
  have q2H := Lib.hid q2
  clear q2
  have cconfidence_0 : w3.cell? ⟨w.heap.size + 1, 0, none⟩ = some (.bool shu) := Blconfidence.at 0 rfl
  have cconfidence_1 : w3.cell? ⟨w.heap.size + 1, 1, none⟩ = some (.slice ahu nhu chu) := Blconfidence.at 1 rfl
  have cconfidence_2 : w3.cell? ⟨w.heap.size + 1, 2, none⟩ = some (.slice Ahu Nhu Chu) := Blconfidence.at 2 rfl
  have Lconfidence : w.heap.size + 1 < w3.heap.size := Blconfidence.lt
  go_wp2_with fail
  clear cconfidence_0 cconfidence_1 cconfidence_2 Lconfidence
  with_reducible refine (al_isChance _ _ _ hu (SzQ.mid su) rfl).mono ?_
  rintro e w4 ⟨rfl, hb⟩
  replace hs := bStep hs hb
  replace Blchance := Blchance.mono hb
  replace Blconfidence := Blconfidence.mono hb
  replace hp := hp.mono hb
  replace hu := hu.mono hb
  clear hb
  obtain ⟨b3, Hb3⟩ : ∃ b : Bool, b = decide (0 ≤ u ∧ u ≤ 1) := ⟨_, rfl⟩
  rw [← Hb3]
  replace Hb3 := Lib.hid Hb3
  have q4 : 0 ≤ u ∧ u ≤ 1 := HU.out
  obtain rfl : b3 = true := by rw [Hb3.out]; exact decide_eq_true q4
  have q4H := Lib.hid q4
  clear q4
  go_wp2
  go_loopw [9] (fun s9 wq => ∃ k : Nat, k ≤ L.length ∧ s9 = .int .i64 k ∧ Below w.heap.size w wq ∧ Bx wq (w.heap.size) 29 #[.bool shp, .slice ahp nhp chp, .slice Ahp Nhp Chp] ∧ Bx wq (w.heap.size + 1) 29 #[.bool shu, .slice ahu nhu chu, .slice Ahu Nhu Chu] ∧ PV wq (.agg #[.bool shp, .slice ahp nhp chp, .slice Ahp Nhp Chp]) (p) ∧ PV wq (.agg #[.bool shu, .slice ahu nhu chu, .slice Ahu Nhu Chu]) (u) ∧ (relF (prvC L u p) k = D)) (fun s9 _ => (intOf s9).toNat)
  case atStart => exact ⟨L.length, Nat.le_refl _, rfl, hs, Blchance, Blconfidence, hp, hu, HD.out⟩
  case round =>
    clear Blchance Blconfidence hp hu hs
    obtain ⟨k, k_le, rfl, hs, Blchance, Blconfidence, hp, hu, HI⟩ := hrel
    replace HI := Lib.hid HI
    go_upto_region 7 with fail
    by_cases q5 : 0 < k
    · have q5d : ((0 : Int) < (k : Int)) = True := eq_true (by omega)
      have SW6a := IntWalk.i64_in ((k : Int) - 1) (by omega)
      have SW6b : (0 : Int) ≤ (k : Int) - 1 := by omega
      have SW6c : ((k : Int) - 1).toNat = (k - 1) := by omega
      have SW6d : (k : Int) - 1 < (L.length : Int) := by omega
      have SW6e : (1 : Int) ≤ (k : Int) := by omega
      have SW6f : (k : Int) < (L.length : Int) + 1 := by omega
      obtain ⟨Ee70, Ee71, le7⟩ := rowClI_at (HLI.out.mono ClC.kept hs) (show (k - 1) < L.length by omega)
      obtain ⟨te7, Hte7⟩ : ∃ z : Int, z = (clAt L (k - 1)).1 := ⟨_, rfl⟩
      obtain ⟨fe7, Hfe7⟩ : ∃ z : Int, z = (clAt L (k - 1)).2 := ⟨_, rfl⟩
      rw [← Hte7] at Ee70
      rw [← Hfe7] at Ee71
      obtain ⟨bte7a, bte7b, bfe7a, bfe7b⟩ : 1 ≤ te7 ∧ te7 ≤ 64 ∧ 0 ≤ fe7 ∧ fe7 ≤ te7 := by rw [Hte7, Hfe7]; exact HOK.out _ (List.mem_of_getElem? (clAt_some (by omega)))
      replace Hte7 := Lib.hid Hte7.symm
      replace Hfe7 := Lib.hid Hfe7.symm
      obtain ⟨b8, Hb8⟩ : ∃ b : Bool, b = prvC L u p (k - 1) := ⟨_, rfl⟩
      replace Hb8 := Lib.hid Hb8
      refine U_region (S := fun w' => w'.cell? ⟨w.heap.size, 0, none⟩ = some (.bool shp) ∧ w'.cell? ⟨w.heap.size, 1, none⟩ = some (.slice ahp nhp chp) ∧ w'.cell? ⟨w.heap.size, 2, none⟩ = some (.slice Ahp Nhp Chp) ∧ w'.cell? ⟨w.heap.size + 1, 0, none⟩ = some (.bool shu) ∧ w'.cell? ⟨w.heap.size + 1, 1, none⟩ = some (.slice ahu nhu chu) ∧ w'.cell? ⟨w.heap.size + 1, 2, none⟩ = some (.slice Ahu Nhu Chu) ∧ w'.cell? ⟨bhl, ohl + (k - 1) * 2, none⟩ = some (.int .i64 te7) ∧ w'.cell? ⟨bhl, ohl + (k - 1) * 2 + 1, none⟩ = some (.int .i64 fe7)) (by kernel_rfl) 12 ?_
      refine AnyU.abs ?_
      intro w25 hW
      have hb : Below wr.heap.size wr w25 := by rw [hW]; exact bDrew _
      replace hs := bStep hs hb
      replace Blchance := Blchance.mono hb
      replace Blconfidence := Blconfidence.mono hb
      replace hp := hp.mono hb
      replace hu := hu.mono hb
      replace Ee70 := cellK Ee70 hb
      replace Ee71 := cellK Ee71 hb
      clear hb hW
      have cchance_0 : w25.cell? ⟨w.heap.size, 0, none⟩ = some (.bool shp) := Blchance.at 0 rfl
      have cchance_1 : w25.cell? ⟨w.heap.size, 1, none⟩ = some (.slice ahp nhp chp) := Blchance.at 1 rfl
      have cchance_2 : w25.cell? ⟨w.heap.size, 2, none⟩ = some (.slice Ahp Nhp Chp) := Blchance.at 2 rfl
      have cconfidence_0 : w25.cell? ⟨w.heap.size + 1, 0, none⟩ = some (.bool shu) := Blconfidence.at 0 rfl
      have cconfidence_1 : w25.cell? ⟨w.heap.size + 1, 1, none⟩ = some (.slice ahu nhu chu) := Blconfidence.at 1 rfl
      have cconfidence_2 : w25.cell? ⟨w.heap.size + 1, 2, none⟩ = some (.slice Ahu Nhu Chu) := Blconfidence.at 2 rfl
      have hH := (show w25.cell? ⟨w.heap.size, 0, none⟩ = some (.bool shp) ∧ w25.cell? ⟨w.heap.size, 1, none⟩ = some (.slice ahp nhp chp) ∧ w25.cell? ⟨w.heap.size, 2, none⟩ = some (.slice Ahp Nhp Chp) ∧ w25.cell? ⟨w.heap.size + 1, 0, none⟩ = some (.bool shu) ∧ w25.cell? ⟨w.heap.size + 1, 1, none⟩ = some (.slice ahu nhu chu) ∧ w25.cell? ⟨w.heap.size + 1, 2, none⟩ = some (.slice Ahu Nhu Chu) ∧ w25.cell? ⟨bhl, ohl + (k - 1) * 2, none⟩ = some (.int .i64 te7) ∧ w25.cell? ⟨bhl, ohl + (k - 1) * 2 + 1, none⟩ = some (.int .i64 fe7) from ⟨cchance_0, cchance_1, cchance_2, cconfidence_0, cconfidence_1, cconfidence_2, Ee70, Ee71⟩)
      refine U_tk 0 25 ?_ ?_ hH ?_
      rotate_left
      · (intro w hSw; (try dsimp only at hSw); go_simp; try with_reducible rfl)
      simp only [LY]
      refine U_tk 1 26 ?_ ?_ hH ?_
      rotate_left
      · (intro w hSw; (try dsimp only at hSw); go_simp; try with_reducible rfl)
      simp only [LY]
      refine U_tk 2 27 ?_ ?_ hH ?_
      rotate_left
      · (intro w hSw; (try dsimp only at hSw); go_simp; try with_reducible rfl)
      simp only [LY]
      refine U_tk 3 28 ?_ ?_ hH ?_
      rotate_left
      · (intro w hSw; (try dsimp only at hSw); go_simp; try with_reducible rfl)
      simp only [LY]
      refine U_tk 4 29 ?_ ?_ hH ?_
      rotate_left
      · (intro w hSw; (try dsimp only at hSw); go_simp; try with_reducible rfl)
      simp only [LY]
      refine U_tk 5 30 ?_ ?_ hH ?_
      rotate_left
      · (intro w hSw; (try dsimp only at hSw); go_simp; try with_reducible rfl)
      simp only [LY]
      refine U_tk 6 31 ?_ ?_ hH ?_
      rotate_left
      · (intro w hSw; (try dsimp only at hSw); go_simp; try with_reducible rfl)
      simp only [LY]
      refine U_tk 7 32 ?_ ?_ hH ?_
      rotate_left
      · (intro w hSw; (try dsimp only at hSw); go_simp; try with_reducible rfl)
      simp only [LY]
      refine U_tk 8 33 ?_ ?_ hH ?_
      rotate_left
      · (intro w hSw; (try dsimp only at hSw); go_simp; try with_reducible rfl)
      simp only [LY]
      refine U_tk 9 34 ?_ ?_ hH ?_
      rotate_left
      · (intro w hSw; (try dsimp only at hSw); go_simp; try with_reducible rfl)
      simp only [LY]
      clear hH
      refine U_one (i := 10) (by kernel_rfl) rfl (fun K hK => ?_)
      go_simp
      (with_reducible refine (cl_proves_e _ Hte7.out Hfe7.out (by omega) (by omega) (by omega) hp sp HP.out hu su Hb8.out.symm).mono ?_)
      rintro e w26 ⟨rfl, hb⟩
      replace hs := bStep hs hb
      replace Blchance := Blchance.mono hb
      replace Blconfidence := Blconfidence.mono hb
      replace hp := hp.mono hb
      replace hu := hu.mono hb
      replace cchance_0 := cellK cchance_0 hb
      replace cchance_1 := cellK cchance_1 hb
      replace cchance_2 := cellK cchance_2 hb
      replace cconfidence_0 := cellK cconfidence_0 hb
      replace cconfidence_1 := cellK cconfidence_1 hb
      replace cconfidence_2 := cellK cconfidence_2 hb
      replace Ee70 := cellK Ee70 hb
      replace Ee71 := cellK Ee71 hb
      clear hb
      try go_wp2_with fail
      refine hK.out _ _ ⟨cchance_0, cchance_1, cchance_2, cconfidence_0, cconfidence_1, cconfidence_2, Ee70, Ee71⟩ (fun hH => ?_)
      clear hK K
      try simp only [LY]
      refine U_tk 11 36 ?_ ?_ hH ?_
      rotate_left
      · (intro w hSw; (try dsimp only at hSw); go_simp; try with_reducible rfl)
      simp only [LY]
      clear hH
      refine U_endN (by kernel_rfl) ?_
      clear cchance_0 cchance_1 cchance_2 cconfidence_0 cconfidence_1 cconfidence_2 Ee70 Ee71
      by_cases q9 : prvC L u p (k - 1) = true
      · obtain rfl : b8 = true := by rw [Hb8.out]; exact q9
        have q9H := Lib.hid q9
        clear q9
        go_wp2
        go_roundw
        case rel => exact ⟨k - 1, by omega, congrArg _ (by omega), hs, Blchance, Blconfidence, hp, hu, (relF_yes (P := prvC L u p) (by omega) q9H.out).symm.trans HI.out⟩
        all_goals first | (simp [intOf]; done) | (simp [intOf]; omega)
      · obtain rfl : b8 = false := by rw [Hb8.out]; simpa using q9
        have q9H := Lib.hid q9
        clear q9
        obtain rfl : k = D := (relF_no (P := prvC L u p) (by omega) q9H.out).symm.trans HI.out
        by_cases q10 : k = L.length
        · have q10b : ((k : Int) == (L.length : Int)) = true := beq_iff_eq.2 (by omega)
          have q10n : ((k : Int) != (L.length : Int)) = false := bne_eq_false_iff_eq.2 (by omega)
          have q10H := Lib.hid q10
          clear q10
          go_wp2
          clear le7
          go_ret2
          exact ⟨by rw [HE1.out, HE2.out, if_pos q10H.out, if_pos q10H.out]; rfl, hs⟩
        · have q10b : ((k : Int) == (L.length : Int)) = false := beq_eq_false_iff_ne.2 (by omega)
          have q10n : ((k : Int) != (L.length : Int)) = true := bne_iff_ne.2 (by omega)
          have q10H := Lib.hid q10
          clear q10
          go_wp2
          clear le7
          go_ret2
          exact ⟨by rw [HE1.out, HE2.out, if_neg q10H.out, if_neg q10H.out]; rfl, hs⟩
    · have q5d : ((0 : Int) < (k : Int)) = False := eq_false (by omega)
      refine U_region (S := fun w' => True) (by kernel_rfl) 12 ?_
      refine AnyU.abs ?_
      intro w25 hW
      have hb : Below wr.heap.size wr w25 := by rw [hW]; exact bDrew _
      replace hs := bStep hs hb
      replace Blchance := Blchance.mono hb
      replace Blconfidence := Blconfidence.mono hb
      replace hp := hp.mono hb
      replace hu := hu.mono hb
      clear hb hW
      have hH := (show True from True.intro)
      refine U_tk 0 25 ?_ ?_ hH ?_
      rotate_left
      · (intro w hSw; (try dsimp only at hSw); go_simp; try with_reducible rfl)
      simp only [LY]
      refine U_tk 1 26 ?_ ?_ hH ?_
      rotate_left
      · (intro w hSw; (try dsimp only at hSw); go_simp; try with_reducible rfl)
      simp only [LY]
      refine U_tk 2 27 ?_ ?_ hH ?_
      rotate_left
      · (intro w hSw; (try dsimp only at hSw); go_simp; try with_reducible rfl)
      simp only [LY]
      refine U_tu 3 28 hH ?_
      simp only [LY]
      refine U_tu 4 29 hH ?_
      simp only [LY]
      refine U_tu 5 30 hH ?_
      simp only [LY]
      refine U_tu 6 31 hH ?_
      simp only [LY]
      refine U_tu 7 32 hH ?_
      simp only [LY]
      refine U_tu 8 33 hH ?_
      simp only [LY]
      refine U_tu 9 34 hH ?_
      simp only [LY]
      clear hH
      refine U_one (i := 10) (by kernel_rfl) rfl (fun K hK => ?_)
      go_simp
      refine hK.out _ _ True.intro (fun hH => ?_)
      clear hK K
      try simp only [LY]
      refine U_tk 11 36 ?_ ?_ hH ?_
      rotate_left
      · (intro w hSw; (try dsimp only at hSw); go_simp; try with_reducible rfl)
      simp only [LY]
      clear hH
      refine U_endN (by kernel_rfl) ?_
      obtain rfl : k = D := by have h := HI.out; rw [show k = 0 by omega] at h ⊢; exact h
      by_cases q6 : k = L.length
      · have q6b : ((k : Int) == (L.length : Int)) = true := beq_iff_eq.2 (by omega)
        have q6n : ((k : Int) != (L.length : Int)) = false := bne_eq_false_iff_eq.2 (by omega)
        have q6H := Lib.hid q6
        clear q6
        go_wp2
        go_ret2
        exact ⟨by rw [HE1.out, HE2.out, if_pos q6H.out, if_pos q6H.out]; rfl, hs⟩
      · have q6b : ((k : Int) == (L.length : Int)) = false := beq_eq_false_iff_ne.2 (by omega)
        have q6n : ((k : Int) != (L.length : Int)) = true := bne_iff_ne.2 (by omega)
        have q6H := Lib.hid q6
        clear q6
        go_wp2
        go_ret2
        exact ⟨by rw [HE1.out, HE2.out, if_neg q6H.out, if_neg q6H.out]; rfl, hs⟩

end Go.Proofs.YtmnipggjjcmjkaaGreat
/-
  Sums of classes and greatest least shares as the reference's loops have them; their sizes; the errors of classes. No function of the program is walked here.
-/
namespace Go.Proofs.YtmnipggjjcmjkaaGreat
open Go.RowKit Dg

/-- The classes from f on, ahead of k, together. -/
def pfC (L : List Cls) (f k : Nat) : Cls := sumC ((L.drop f).take (k - f))
theorem pfC_zero (L : List Cls) (f : Nat) : pfC L f f = (0, 0) := by unfold pfC; rw [Nat.sub_self]; rfl
theorem pfC_next {L : List Cls} {f k : Nat} (h1 : f ≤ k) (h2 : k < L.length) {t g : Int} (ht : (clAt L k).1 = t) (hg : (clAt L k).2 = g) : pfC L f (k + 1) = ((pfC L f k).1 + t, (pfC L f k).2 + g) := by
  subst ht hg
  unfold pfC
  have e : k - f < (L.drop f).length := by rw [List.length_drop]; omega
  rw [show k + 1 - f = k - f + 1 by omega, List.take_succ_eq_append_getElem e, sumC_append]
  have e2 : (L.drop f)[k - f] = clAt L k := by
    have := clAt_some h2
    rw [List.getElem?_eq_getElem h2] at this
    injection this with this
    rw [List.getElem_drop, ← this]
    congr 1; omega
  rw [e2]
  show ((sumC _).1 + ((clAt L k).1 + 0), (sumC _).2 + ((clAt L k).2 + 0)) = _
  simp
theorem pfC_bd {L : List Cls} (hok : ∀ c ∈ L, ClOk c) (h16 : L.length ≤ 16) {f k : Nat} : 0 ≤ (pfC L f k).2 ∧ (pfC L f k).2 ≤ (pfC L f k).1 ∧ (pfC L f k).1 ≤ 1024 ∧ (f < k → f < L.length → 1 ≤ (pfC L f k).1) := by
  have b := sumC_bd ((L.drop f).take (k - f)) (fun c hc => hok c (List.mem_of_mem_drop (List.mem_of_mem_take hc)))
  have l : ((L.drop f).take (k - f)).length ≤ 16 := by rw [List.length_take, List.length_drop]; omega
  have l2 : ((L.drop f).take (k - f)).length = min (k - f) (L.length - f) := by rw [List.length_take, List.length_drop]
  unfold pfC
  omega
theorem shR_sz {L : List Cls} (hok : ∀ c ∈ L, ClOk c) (h16 : L.length ≤ 16) {f t : Nat} (h1 : f ≤ t) (h2 : t < L.length) : SzQ 1 (shR L f t) := by
  have b := pfC_bd hok h16 (f := f) (k := t + 1)
  show SzQ 1 (shQ (pfC L f (t + 1)))
  exact szQ_frac (by omega) (by omega) (by omega)
theorem lsQ_sz {L : List Cls} (hok : ∀ c ∈ L, ClOk c) (h16 : L.length ≤ 16) {f i : Nat} (h1 : f ≤ i) : ∀ n, i + n ≤ L.length → i < L.length → SzQ 1 (lsQ L f i n)
  | 0, _, h => shR_sz hok h16 h1 h
  | n + 1, h, h0 => by
    unfold lsQ
    split
    · exact shR_sz hok h16 (by omega) (by omega)
    · exact lsQ_sz hok h16 h1 n (by omega) h0
theorem gsQ_sz {L : List Cls} (hok : ∀ c ∈ L, ClOk c) (h16 : L.length ≤ 16) {i : Nat} (h0 : i < L.length) : ∀ n, n ≤ i + 1 → SzQ 1 (gsQ L i n)
  | 0, _ => szQ_zero
  | n + 1, h => by
    unfold gsQ
    split
    · exact lsQ_sz hok h16 (by omega) _ (by omega) h0
    · split
      · exact lsQ_sz hok h16 (by omega) _ (by omega) h0
      · exact gsQ_sz hok h16 h0 n (by omega)
theorem lsQ_less {L : List Cls} {f i t : Nat} (h1 : i ≤ t) {x : Rat} (hx : x = shR L f t) (h : x < lsQ L f i (t - i)) : lsQ L f i (t + 1 - i) = x := by
  subst hx
  rw [show t + 1 - i = (t - i) + 1 by omega]
  show (if shR L f (i + (t - i)) < lsQ L f i (t - i) then shR L f (i + (t - i)) else lsQ L f i (t - i)) = _
  rw [show i + (t - i) = t by omega, if_pos h]
theorem lsQ_keep {L : List Cls} {f i t : Nat} (h1 : i ≤ t) {x : Rat} (hx : x = shR L f t) (h : ¬ x < lsQ L f i (t - i)) : lsQ L f i (t + 1 - i) = lsQ L f i (t - i) := by
  subst hx
  rw [show t + 1 - i = (t - i) + 1 by omega]
  show (if shR L f (i + (t - i)) < lsQ L f i (t - i) then shR L f (i + (t - i)) else lsQ L f i (t - i)) = _
  rw [show i + (t - i) = t by omega, if_neg h]
theorem gsQ_first {L : List Cls} {i j : Nat} (h : j = 0) : gsQ L i (j + 1) = lsQ L j i (L.length - i) := by subst h; rfl
theorem gsQ_more {L : List Cls} {i j : Nat} (h : ¬ j = 0) (hl : gsQ L i j < lsQ L j i (L.length - i)) : gsQ L i (j + 1) = lsQ L j i (L.length - i) := by
  show (if j = 0 then lsQ L 0 i (L.length - i) else if gsQ L i j < lsQ L j i (L.length - i) then lsQ L j i (L.length - i) else gsQ L i j) = _
  rw [if_neg h, if_pos hl]
theorem gsQ_keep {L : List Cls} {i j : Nat} (h : ¬ j = 0) (hl : ¬ gsQ L i j < lsQ L j i (L.length - i)) : gsQ L i (j + 1) = gsQ L i j := by
  show (if j = 0 then lsQ L 0 i (L.length - i) else if gsQ L i j < lsQ L j i (L.length - i) then lsQ L j i (L.length - i) else gsQ L i j) = _
  rw [if_neg h, if_neg hl]
/-- The list as it grows: i are done, the next one has seen j beginnings. -/
def rsL (L : List Cls) (i j : Nat) : List Rat := (List.range L.length).map fun x => if x < i then gsQ L x (x + 1) else if x = i then gsQ L i j else 0
theorem rsL_len (L : List Cls) (i j : Nat) : (rsL L i j).length = L.length := by simp [rsL]
theorem rsL_zero (L : List Cls) : List.replicate L.length (0 : Rat) = rsL L 0 0 := by
  refine List.ext_getElem? fun x => ?_
  unfold rsL
  rw [List.getElem?_map, List.getElem?_replicate]
  by_cases h : x < L.length
  · rw [List.getElem?_range h, if_pos h]
    simp only [Option.map_some, Option.some.injEq]
    rw [if_neg (Nat.not_lt_zero _)]
    split
    · rfl
    · rfl
  · rw [if_neg h, List.getElem?_eq_none (by simp; omega)]; rfl
theorem rsL_at {L : List Cls} {i j : Nat} (h : i < L.length) : nthQ (rsL L i j) i = gsQ L i j := by
  unfold nthQ rsL
  rw [List.getD_eq_getElem?_getD, List.getElem?_map, List.getElem?_range h]
  show (if i < i then _ else _) = _
  rw [if_neg (Nat.lt_irrefl _), if_pos rfl]
theorem rsL_set {L : List Cls} {i j : Nat} {x : Rat} (hx : gsQ L i (j + 1) = x) : (rsL L i j).set i x = rsL L i (j + 1) := by
  refine List.ext_getElem? fun y => ?_
  rw [List.getElem?_set]
  unfold rsL
  by_cases hy : y < L.length
  · rw [List.getElem?_map, List.getElem?_map, List.getElem?_range hy]
    by_cases e : i = y
    · subst e
      rw [if_pos rfl, if_pos (by simpa using hy)]
      simp only [Option.map_some, Option.some.injEq]
      rw [if_neg (Nat.lt_irrefl _)]
      simp [hx]
    · rw [if_neg e]
      simp only [Option.map_some, Option.some.injEq]
      by_cases h : y < i
      · rw [if_pos h, if_pos h]
      · rw [if_neg h, if_neg h, if_neg (fun h => e h.symm), if_neg (fun h => e h.symm)]
  · rw [List.getElem?_eq_none (by simp; omega), List.getElem?_eq_none (by simp; omega)]
    split
    · split
      · exfalso; rename_i a b; simp at b; omega
      · rfl
    · rfl
theorem rsL_same {L : List Cls} {i j : Nat} (h : gsQ L i (j + 1) = gsQ L i j) : rsL L i (j + 1) = rsL L i j := by unfold rsL; rw [h]
theorem rsL_next (L : List Cls) (i : Nat) : rsL L i (i + 1) = rsL L (i + 1) 0 := by
  unfold rsL
  refine List.map_congr_left fun x _ => ?_
  by_cases h : x < i
  · rw [if_pos h, if_pos (by omega)]
  · by_cases e : x = i
    · subst e; rw [if_neg h, if_pos rfl, if_pos (by omega)]
    · rw [if_neg h, if_neg e, if_neg (by omega)]
      split
      · rfl
      · rfl
theorem rsL_all {L : List Cls} (hok : ∀ c ∈ L, ClOk c) : rsL L L.length 0 = outR (pavL L) := by
  have hT : okT L := fun c hc => by have := hok c hc; unfold ClOk at this; omega
  obtain ⟨hl, -⟩ := pav_fits hT
  refine List.ext_getElem? fun x => ?_
  by_cases h : x < L.length
  · have hv := List.getElem?_eq_getElem (show x < (outR (pavL L)).length by omega)
    rw [hv, ← pav_gs hT hv]
    unfold rsL
    rw [List.getElem?_map, List.getElem?_range h]
    simp only [Option.map_some, Option.some.injEq]
    rw [if_pos h]
  · rw [List.getElem?_eq_none (by rw [rsL_len]; omega), List.getElem?_eq_none (by omega)]
/-- The reference's term. -/
theorem mfK_next' {L : List Cls} {C : List Rat} {k : Nat} {t f : Int} (h : k < L.length) (hc : k < C.length) (ht : (clAt L k).1 = t) (hf : (clAt L k).2 = f) : mfK L C k + ((t : Int) : Rat) * ((shQ (t, f) - nthQ C k) * (shQ (t, f) - nthQ C k)) = mfK L C (k + 1) := by
  rw [← mfK_next h hc ht hf]; grind
/-- The error of classes. -/
def clB (c : Cls) : Bool := decide (1 ≤ c.1 ∧ c.1 ≤ 64 ∧ 0 ≤ c.2 ∧ c.2 ≤ c.1)
theorem clB_ok {c : Cls} : clB c = true ↔ ClOk c := by unfold clB ClOk; exact decide_eq_true_iff
def clE (L : List Cls) : Int := if L.length < 1 ∨ 16 < L.length then 4 else if L.all clB = true then 0 else 1
theorem clE_few {L : List Cls} (h : L.length < 1) : clE L = 4 := if_pos (.inl h)
theorem clE_many {L : List Cls} (h : 16 < L.length) : clE L = 4 := if_pos (.inr h)
theorem clE_ok {L : List Cls} (h1 : 1 ≤ L.length) (h2 : L.length ≤ 16) (h : L.all clB = true) : clE L = 0 := by unfold clE; rw [if_neg (by omega), if_pos h]
theorem clE_bad {L : List Cls} (h1 : 1 ≤ L.length) (h2 : L.length ≤ 16) {k : Nat} (hk : k < L.length) (h : clB (clAt L k) = false) : clE L = 1 := by
  unfold clE
  rw [if_neg (by omega), if_neg (fun e => ?_)]
  have := List.all_eq_true.1 e _ (List.mem_of_getElem? (clAt_some hk))
  rw [h] at this; cases this
theorem clE_zero {L : List Cls} (h : clE L = 0) : 1 ≤ L.length ∧ L.length ≤ 16 ∧ ∀ c ∈ L, ClOk c := by
  unfold clE at h
  by_cases h1 : L.length < 1 ∨ 16 < L.length
  · rw [if_pos h1] at h; cases h
  · rw [if_neg h1] at h
    by_cases h2 : L.all clB = true
    · exact ⟨by omega, by omega, fun c hc => clB_ok.1 (List.all_eq_true.1 h2 c hc)⟩
    · rw [if_neg h2] at h; cases h
theorem all_succ {L : List Cls} {k : Nat} (hk : k < L.length) (h1 : (L.take k).all clB = true) (h2 : clB (clAt L k) = true) : (L.take (k + 1)).all clB = true := by
  have e : L[k] = clAt L k := by
    have := clAt_some hk
    rw [List.getElem?_eq_getElem hk] at this
    injection this
  rw [List.take_succ_eq_append_getElem hk, List.all_append, h1, e]
  simp [h2]
theorem okT_of8 {A : List Cls} (h : ∀ c ∈ A, ClOk c) : okT A := fun c hc => by have := h c hc; unfold ClOk at this; omega
theorem outR_sz8 {A : List Cls} (hA : ∀ c ∈ A, ClOk c) (h16 : A.length ≤ 16) (i : Nat) (h : i < (outR (pavL A)).length) : SzQ 1 (nthQ (outR (pavL A)) i) := by
  obtain ⟨hc, hf⟩ := pav_ok (okT_of8 hA)
  have key : ∀ s : List (List Cls), (∀ a ∈ s, SzQ 1 (shQ (sumC a))) → ∀ x ∈ outR s, SzQ 1 x := by
    intro s
    induction s with
    | nil => intro _ x hx; simp [outR] at hx
    | cons a s ih =>
      intro h x hx
      rcases List.mem_append.1 hx with hx | hx
      · exact ih (fun b hb => h b (by simp [hb])) x hx
      · rw [(List.mem_replicate.1 hx).2]; exact h a (by simp)
  refine key _ (fun a ha => ?_) _ (List.mem_of_getElem? (nthQ_some h))
  have hne : a ≠ [] := by
    have : ∀ s : List (List Cls), chain s → ∀ a ∈ s, a ≠ [] := by
      intro s
      induction s with
      | nil => intro _ a ha; simp at ha
      | cons b s ih =>
        intro hc a ha
        rcases List.mem_cons.1 ha with rfl | ha
        · exact hc.1.1
        · exact ih hc.2.2 a ha
    exact this _ hc a ha
  have b := seg_bd h16 hA hf ha hne
  exact szQ_frac (by omega) (by omega) (by omega)
end Go.Proofs.YtmnipggjjcmjkaaGreat
