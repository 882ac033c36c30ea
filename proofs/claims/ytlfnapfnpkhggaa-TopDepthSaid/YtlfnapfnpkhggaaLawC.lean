/-
  Law 07: is the list of layers light?
-/
import Derived.Test.YtlfnapfnpkhggaaPkLaw
set_option linter.unusedSimpArgs false
set_option linter.unusedVariables false
namespace Go.Proofs.Ytlfnapfnpkhggaa
open Go.RowKit Dg
attribute [local go_sem ↓] Go.wp_at_zero Go.wp_at_succ

/-- A layer of plain data. -/
abbrev DL := (Int × Int) × (Int × Int) × (Int × Int)
def DC (_ : World) (cs : List Value) (x : DL) : Prop := cs = [.int .i64 x.1.1, .int .i64 x.1.2, .int .i64 x.2.1.1, .int .i64 x.2.1.2, .int .i64 x.2.2.1, .int .i64 x.2.2.2]
theorem DC.kept : Kept DC := fun _ _ _ _ h _ => h
def lightF (x : DL) : Bool := [x.1, x.2.1, x.2.2].all shortF
def lightQ (l : List DL) : Bool := l.all lightF && (decide ((l.length : Int) ≤ 8) || (decide (12 < (l.length : Int)) && decide ((l.length : Int) ≤ 20)))
theorem rowsF3 {w : World} {g : Nat} {n1 d1 n2 d2 n3 d3 : Int} (h : Bx w g 81 #[.int .i64 n1, .int .i64 d1, .int .i64 n2, .int .i64 d2, .int .i64 n3, .int .i64 d3]) : Rows 2 81 FC w (.slice (some ⟨g, 0, none⟩) 3 3) [(n1, d1), (n2, d2), (n3, d3)] := by
  refine ⟨_, 3, rfl, Nat.le_refl _, by decide, (fun e => by cases e), (fun a ea _ => by cases ea; exact h.ty), fun i x hx => ?_⟩
  have at_ : ∀ o cs, (∀ j u, cs[j]? = some u → #[.int .i64 n1, .int .i64 d1, .int .i64 n2, .int .i64 d2, .int .i64 n3, .int .i64 d3][o + j]? = some u) → CellsAt w g (0 + o) cs := fun o cs hc j u hu => by rw [Nat.zero_add]; exact h.at _ (hc j u hu)
  match i, hx with
  | 0, hx => cases hx; exact ⟨g, 0, _, rfl, rfl, at_ 0 [.int .i64 n1, .int .i64 d1] (fun j u hu => by match j, hu with | 0, hu => exact hu | 1, hu => exact hu), rfl⟩
  | 1, hx => cases hx; exact ⟨g, 0, _, rfl, rfl, at_ 2 [.int .i64 n2, .int .i64 d2] (fun j u hu => by match j, hu with | 0, hu => exact hu | 1, hu => exact hu), rfl⟩
  | 2, hx => cases hx; exact ⟨g, 0, _, rfl, rfl, at_ 4 [.int .i64 n3, .int .i64 d3] (fun j u hu => by match j, hu with | 0, hu => exact hu | 1, hu => exact hu), rfl⟩

set_option maxRecDepth 100000 in
set_option maxHeartbeats 4000000 in
theorem l7_light (v : Value) (l : List DL) (w : World) (hl : RowsI 6 DC w v l) : Calls Try.prog 6 #[v] w (RetV w (.bool (lightQ l))) := by
  obtain ⟨ao, cap, rfl, hc1, hc2, hc3⟩ := hl.slice
  have hs := Below.refl w.heap.size w
  have HL := Lib.hid hl
  clear hl
  go_enter Try.func6, Try.ntmps6
  go_wp2
  go_loopw [7] (fun iv wr => ∃ k : Nat, k ≤ l.length ∧ iv = .int .i64 k ∧ (l.take k).all lightF = true ∧ Below w.heap.size w wr) (fun iv _ => l.length - (intOf iv).toNat)
  case atStart => exact ⟨0, Nat.zero_le _, rfl, rfl, hs⟩
  case round =>
    obtain ⟨k, hk, rfl, hp, hs⟩ := hrel
    have HP := Lib.hid hp
    clear hp
    by_cases hlt : k < l.length
    · obtain ⟨⟨⟨n1, d1⟩, ⟨n2, d2⟩, ⟨n3, d3⟩⟩, hx⟩ : ∃ x, l[k]? = some x := ⟨_, List.getElem?_eq_getElem hlt⟩
      obtain ⟨b, o, c, cs, hv, hlen, hat, rfl⟩ := (HL.out.mono DC.kept hs).get hx
      obtain ⟨rfl, rfl⟩ := sliceE hv
      have e0 := hat 0 _ rfl
      have e1 := hat 1 _ rfl
      have e2 := hat 2 _ rfl
      have e3 := hat 3 _ rfl
      have e4 := hat 4 _ rfl
      have e5 := hat 5 _ rfl
      clear hat
      simp only [Nat.add_zero] at e0
      have HT := Lib.hid (allF_take lightF l k _ hx HP.out)
      clear hx hv hlen
      dsimp only at e0 e1 e2 e3 e4 e5
      go_wp2_with fail
      clear e0 e1 e2 e3 e4 e5
      refine Calls.abs ?_
      intro w1 hW
      have hsz := hs.size
      have hbw : Below w.heap.size wr w1 := by rw [hW]; exact (Below.alloc (Below.alloc (Below.refl w.heap.size wr) (by first | exact hs.size | (have := hs.size; simp; done) | (have := hs.size; simp; omega)) _) (by first | exact hs.size | (have := hs.size; simp; done) | (have := hs.size; simp; omega)) _)
      have hs1 : Below w.heap.size w w1 := hs.trans hbw
      have hk : KeepD wr w1 := by rw [hW]; exact (((KeepD.refl _).alloc _).alloc _)
      have Bl1x : Bx w1 (wr.heap.size) 83 #[.int .i64 n1, .int .i64 d1, .int .i64 n2, .int .i64 d2, .int .i64 n3, .int .i64 d3] := by rw [hW]; exact ((Bx.new' _ _ _ _ (by first | rfl | (simp; done))).alloc _)
      have Bl1s : Bx w1 (wr.heap.size + 1) 81 #[.int .i64 n1, .int .i64 d1, .int .i64 n2, .int .i64 d2, .int .i64 n3, .int .i64 d3] := by rw [hW]; exact (Bx.new' _ _ _ _ (by first | rfl | (simp; done)))
      replace hs := hs1
      clear hs1
      have Blx := Bl1x
      clear Bl1x
      have Bls := Bl1s
      clear Bl1s
      clear hW hk hsz hbw
      have hz_w1 : wr.heap.size + 1 < w1.heap.size := Bls.lt
      refine (l7_short _ _ _ (rowsF3 Bls).toI).mono ?_
      rintro e w2 ⟨rfl, hb⟩
      replace hs := bStep hs hb
      replace Blx := Blx.mono hb
      replace Bls := Bls.mono hb
      clear hb
      have HX := HT.out
      clear HT
      rw [show [(n1, d1), (n2, d2), (n3, d3)].all shortF = lightF ((n1, d1), (n2, d2), (n3, d3)) from rfl]
      generalize lightF ((n1, d1), (n2, d2), (n3, d3)) = px at *
      cases px
      · have := allF_false _ l (k + 1) HX
        have HF := Lib.hid (show lightQ l = false by unfold lightQ; rw [this]; rfl)
        clear this HX
        go_wp2
        go_ret
        exact ⟨by rw [HF.out]; rfl, hs⟩
      · have HF := Lib.hid HX
        clear HX
        go_wp2
        go_roundw
        case rel => exact ⟨k + 1, by omega, by go_num, HF.out, hs⟩
        all_goals first | (simp [intOf]; done) | (simp [intOf]; omega)
    · have hp := HP.out
      rw [List.take_of_length_le (by omega)] at hp
      have HF := Lib.hid (show lightQ l = (decide ((l.length : Int) ≤ 8) || (decide (12 < (l.length : Int)) && decide ((l.length : Int) ≤ 20))) by unfold lightQ; rw [hp]; rfl)
      clear hp HP
      by_cases q1 : (l.length : Int) ≤ 8
      · go_wp2
        go_ret
        exact ⟨by rw [HF.out, decide_eq_true (show (l.length : Int) ≤ 8 by omega)]; rfl, hs⟩
      · by_cases q2 : 12 < (l.length : Int)
        · by_cases q3 : (l.length : Int) ≤ 20
          · go_wp2
            go_ret
            exact ⟨by rw [HF.out, decide_eq_false (show ¬ (l.length : Int) ≤ 8 by omega), decide_eq_true (show 12 < (l.length : Int) by omega), decide_eq_true (show (l.length : Int) ≤ 20 by omega)]; rfl, hs⟩
          · go_wp2
            go_ret
            exact ⟨by rw [HF.out, decide_eq_false (show ¬ (l.length : Int) ≤ 8 by omega), decide_eq_true (show 12 < (l.length : Int) by omega), decide_eq_false (show ¬ (l.length : Int) ≤ 20 by omega)]; rfl, hs⟩
        · go_wp2
          go_ret
          exact ⟨by rw [HF.out, decide_eq_false (show ¬ (l.length : Int) ≤ 8 by omega), decide_eq_false (show ¬ 12 < (l.length : Int) by omega)]; rfl, hs⟩
end Go.Proofs.Ytlfnapfnpkhggaa
