/-
  Ring of both sides: the errors; all ways.
-/
import Derived.Test.YtkfekkhhfpkfaaaGreatRingPG
import Derived.Test.YtkfekkhhfpkfaaaGreatRefRingG
set_option linter.unusedSimpArgs false
set_option linter.unusedVariables false
set_option maxRecDepth 100000
set_option maxHeartbeats 4000000
namespace Go.Proofs.YtkfekkhhfpkfaaaGreat
open Go.RowKit Dg
attribute [local go_sem ↓] Go.wp_at_zero Go.wp_at_succ
def rngE (L : List Rat) (s : Int) : Int := if L.length < 2 then 4 else if 12 < L.length then 4 else if allPos L = true then (if s < 1 then 1 else if 16 < s then 1 else 0) else 1
def rngB (L : List Rat) (s : Int) : List Rat := if rngE L s = 0 then rgBks L s.toNat else []
def rngT (L : List Rat) (s : Int) : List Rat := if rngE L s = 0 then rgThs L s.toNat else []
def rngI (L : List Rat) (s : Int) : Rat := if rngE L s = 0 then rgIns L s.toNat else 0
theorem sc_Ring_few (v : Value) (L : List Rat) (st : Int) (w : World) (hl : Rows 3 32 PC w v L) (h0 : L.length < 2) :
  Calls Tryz.prog 10 #[v, .int .i64 st] w (Ret4 (fun _ v => v = .slice none 0 0) (fun _ v => v = .slice none 0 0) (fun w v => PV w v 0) (fun _ v => v = .int .i64 4) w) := by
 obtain ⟨ao, cap, rfl, hc1, hc2, hc3⟩ := hl.slice
 have hs := Below.refl w.heap.size w
 have HL := Lib.hid hl
 clear hl
 go_enter Tryz.func10, Tryz.ntmps10
 have q1 : L.length < 2 := by omega
 have q1d : ((L.length : Int) < 2) = True := eq_true (by omega)
 go_wp2
 refine bodyPost.abs ?_
 intro w1 hW
 have hG : Gr [] w w1 := by rw [hW]; exact (Gr.refl _ _).alloc
 have hbw : Below w.heap.size w w1 := hG.below0 hs.size
 have hk : KeepD w w1 := hG.keep True.intro
 have sz_w1 : w.heap.size ≤ w.heap.size := hs.size
 have B0 : Bx w1 (w.heap.size) 32 #[.bool false, .slice none 0 0, .slice none 0 0] := by rw [hW]; exact (Bx.new0 _ _ _)
 replace hs := hs.trans hbw
 clear hW hG hk hbw
 have hz_w1 := B0.lt
 have B1 := B0.a0
 have B2 := B0.a1
 have B3 := B0.a2
 exact bodyPost_ret (v := .tuple #[.slice none 0 0, .slice none 0 0, .agg #[.bool false, .slice none 0 0, .slice none 0 0], .int .i64 4]) (by simp [results, Tryz.results10, go_sem, B1, B2, B3]) rfl ⟨_, _, _, _, rfl, rfl, rfl, (PV.zero _), rfl, hs⟩
theorem sc_Ring_many (v : Value) (L : List Rat) (st : Int) (w : World) (hl : Rows 3 32 PC w v L) (h0 : 12 < L.length) :
  Calls Tryz.prog 10 #[v, .int .i64 st] w (Ret4 (fun _ v => v = .slice none 0 0) (fun _ v => v = .slice none 0 0) (fun w v => PV w v 0) (fun _ v => v = .int .i64 4) w) := by
 obtain ⟨ao, cap, rfl, hc1, hc2, hc3⟩ := hl.slice
 have hs := Below.refl w.heap.size w
 have HL := Lib.hid hl
 clear hl
 go_enter Tryz.func10, Tryz.ntmps10
 have q1 : ¬ (L.length < 2) := by omega
 have q1d : ((L.length : Int) < 2) = False := eq_false (by omega)
 have q2 : 12 < L.length := by omega
 have q2d : ((12 : Int) < (L.length : Int)) = True := eq_true (by omega)
 go_wp2
 refine bodyPost.abs ?_
 intro w1 hW
 have hG : Gr [] w w1 := by rw [hW]; exact (Gr.refl _ _).alloc
 have hbw : Below w.heap.size w w1 := hG.below0 hs.size
 have hk : KeepD w w1 := hG.keep True.intro
 have sz_w1 : w.heap.size ≤ w.heap.size := hs.size
 have B0 : Bx w1 (w.heap.size) 32 #[.bool false, .slice none 0 0, .slice none 0 0] := by rw [hW]; exact (Bx.new0 _ _ _)
 replace hs := hs.trans hbw
 clear hW hG hk hbw
 have hz_w1 := B0.lt
 have B1 := B0.a0
 have B2 := B0.a1
 have B3 := B0.a2
 exact bodyPost_ret (v := .tuple #[.slice none 0 0, .slice none 0 0, .agg #[.bool false, .slice none 0 0, .slice none 0 0], .int .i64 4]) (by simp [results, Tryz.results10, go_sem, B1, B2, B3]) rfl ⟨_, _, _, _, rfl, rfl, rfl, (PV.zero _), rfl, hs⟩
theorem sc_Ring_neg (v : Value) (L : List Rat) (st : Int) (w : World) (hl : Rows 3 32 PC w v L) (h0 : 2 ≤ L.length) (h1 : L.length ≤ 12) (hap : allPos L = false) :
  Calls Tryz.prog 10 #[v, .int .i64 st] w (Ret4 (fun _ v => v = .slice none 0 0) (fun _ v => v = .slice none 0 0) (fun w v => PV w v 0) (fun _ v => v = .int .i64 1) w) := by
 obtain ⟨ao, cap, rfl, hc1, hc2, hc3⟩ := hl.slice
 have hs := Below.refl w.heap.size w
 have HL := Lib.hid hl
 have HAP := Lib.hid hap
 clear hl hap
 go_enter Tryz.func10, Tryz.ntmps10
 have q1 : ¬ (L.length < 2) := by omega
 have q1d : ((L.length : Int) < 2) = False := eq_false (by omega)
 have q2 : ¬ (12 < L.length) := by omega
 have q2d : ((12 : Int) < (L.length : Int)) = False := eq_false (by omega)
 go_wp2_with fail
 refine Calls.abs ?_
 intro w1 hW
 have hG : Gr [] w w1 := by rw [hW]; exact (Gr.refl _ _).alloc
 have hbw : Below w.heap.size w w1 := hG.below0 hs.size
 have hk : KeepD w w1 := hG.keep True.intro
 have sz_w1 : w.heap.size ≤ w.heap.size := hs.size
 have B0 : Bx w1 (w.heap.size) 32 #[.bool false, .slice none 0 0, .slice none 0 0] := by rw [hW]; exact (Bx.new0 _ _ _)
 replace hs := hs.trans hbw
 clear hW hG hk hbw
 have hz_w1 := B0.lt
 with_reducible refine (sc_above_false HAP.out (HL.out.mono PC.kept hs)).mono ?_
 rintro e w2 ⟨rfl, hb⟩
 replace hs := bStep hs hb
 replace B0 := B0.mono hb
 clear hb
 have B1 := B0.a0
 have B2 := B0.a1
 have B3 := B0.a2
 have finside := B0.free
 have Linside := B0.lt
 go_wp2
 clear B1 B2 B3 finside Linside
 refine bodyPost.abs ?_
 intro w3 hW
 have hG : Gr [w.heap.size] w2 w3 := by rw [hW]; exact (Gr.refl _ _).set.set.set
 have hsz := hs.size
 have linside := B0.lt
 have hbw : Below w.heap.size w2 w3 := hG.below1 hs.size (by first | omega | assumption)
 have hk : KeepD w2 w3 := hG.keep ⟨⟨_, B0.ty, by decide⟩, True.intro⟩
 have Bl1inside : Bx w3 (w.heap.size) 32 #[.bool false, .slice none 0 0, .slice none 0 0] := by rw [hW]; exact B0.set3
 replace hs := hs.trans hbw
 replace B0 := Bl1inside
 clear Bl1inside
 clear hW hG hk hbw hsz linside
 have B1 := B0.a0
 have B2 := B0.a1
 have B3 := B0.a2
 exact bodyPost_ret (v := .tuple #[.slice none 0 0, .slice none 0 0, .agg #[.bool false, .slice none 0 0, .slice none 0 0], .int .i64 1]) (by simp [results, Tryz.results10, go_sem, B1, B2, B3]) rfl ⟨_, _, _, _, rfl, rfl, rfl, (PV.zero _), rfl, hs⟩
theorem sc_Ring_s0 (v : Value) (L : List Rat) (st : Int) (w : World) (hl : Rows 3 32 PC w v L) (h0 : 2 ≤ L.length) (h1 : L.length ≤ 12) (hap : allPos L = true) (hst : st < 1) :
  Calls Tryz.prog 10 #[v, .int .i64 st] w (Ret4 (fun _ v => v = .slice none 0 0) (fun _ v => v = .slice none 0 0) (fun w v => PV w v 0) (fun _ v => v = .int .i64 1) w) := by
 obtain ⟨ao, cap, rfl, hc1, hc2, hc3⟩ := hl.slice
 have hs := Below.refl w.heap.size w
 have HL := Lib.hid hl
 have HAP := Lib.hid hap
 clear hl hap
 go_enter Tryz.func10, Tryz.ntmps10
 have q1 : ¬ (L.length < 2) := by omega
 have q1d : ((L.length : Int) < 2) = False := eq_false (by omega)
 have q2 : ¬ (12 < L.length) := by omega
 have q2d : ((12 : Int) < (L.length : Int)) = False := eq_false (by omega)
 go_wp2_with fail
 refine Calls.abs ?_
 intro w1 hW
 have hG : Gr [] w w1 := by rw [hW]; exact (Gr.refl _ _).alloc
 have hbw : Below w.heap.size w w1 := hG.below0 hs.size
 have hk : KeepD w w1 := hG.keep True.intro
 have sz_w1 : w.heap.size ≤ w.heap.size := hs.size
 have B0 : Bx w1 (w.heap.size) 32 #[.bool false, .slice none 0 0, .slice none 0 0] := by rw [hW]; exact (Bx.new0 _ _ _)
 replace hs := hs.trans hbw
 clear hW hG hk hbw
 have hz_w1 := B0.lt
 with_reducible refine (sc_above_true HAP.out (HL.out.mono PC.kept hs)).mono ?_
 rintro e w2 ⟨rfl, hb⟩
 replace hs := bStep hs hb
 replace B0 := B0.mono hb
 clear hb
 have q3 : st < 1 := by omega
 have q3d : (st < 1) = True := eq_true (by omega)
 have B1 := B0.a0
 have B2 := B0.a1
 have B3 := B0.a2
 have finside := B0.free
 have Linside := B0.lt
 go_wp2
 clear B1 B2 B3 finside Linside
 refine bodyPost.abs ?_
 intro w3 hW
 have hG : Gr [w.heap.size] w2 w3 := by rw [hW]; exact (Gr.refl _ _).set.set.set
 have hsz := hs.size
 have linside := B0.lt
 have hbw : Below w.heap.size w2 w3 := hG.below1 hs.size (by first | omega | assumption)
 have hk : KeepD w2 w3 := hG.keep ⟨⟨_, B0.ty, by decide⟩, True.intro⟩
 have Bl1inside : Bx w3 (w.heap.size) 32 #[.bool false, .slice none 0 0, .slice none 0 0] := by rw [hW]; exact B0.set3
 replace hs := hs.trans hbw
 replace B0 := Bl1inside
 clear Bl1inside
 clear hW hG hk hbw hsz linside
 have B1 := B0.a0
 have B2 := B0.a1
 have B3 := B0.a2
 exact bodyPost_ret (v := .tuple #[.slice none 0 0, .slice none 0 0, .agg #[.bool false, .slice none 0 0, .slice none 0 0], .int .i64 1]) (by simp [results, Tryz.results10, go_sem, B1, B2, B3]) rfl ⟨_, _, _, _, rfl, rfl, rfl, (PV.zero _), rfl, hs⟩
theorem sc_Ring_s17 (v : Value) (L : List Rat) (st : Int) (w : World) (hl : Rows 3 32 PC w v L) (h0 : 2 ≤ L.length) (h1 : L.length ≤ 12) (hap : allPos L = true) (hst : 16 < st) :
  Calls Tryz.prog 10 #[v, .int .i64 st] w (Ret4 (fun _ v => v = .slice none 0 0) (fun _ v => v = .slice none 0 0) (fun w v => PV w v 0) (fun _ v => v = .int .i64 1) w) := by
 obtain ⟨ao, cap, rfl, hc1, hc2, hc3⟩ := hl.slice
 have hs := Below.refl w.heap.size w
 have HL := Lib.hid hl
 have HAP := Lib.hid hap
 clear hl hap
 go_enter Tryz.func10, Tryz.ntmps10
 have q1 : ¬ (L.length < 2) := by omega
 have q1d : ((L.length : Int) < 2) = False := eq_false (by omega)
 have q2 : ¬ (12 < L.length) := by omega
 have q2d : ((12 : Int) < (L.length : Int)) = False := eq_false (by omega)
 go_wp2_with fail
 refine Calls.abs ?_
 intro w1 hW
 have hG : Gr [] w w1 := by rw [hW]; exact (Gr.refl _ _).alloc
 have hbw : Below w.heap.size w w1 := hG.below0 hs.size
 have hk : KeepD w w1 := hG.keep True.intro
 have sz_w1 : w.heap.size ≤ w.heap.size := hs.size
 have B0 : Bx w1 (w.heap.size) 32 #[.bool false, .slice none 0 0, .slice none 0 0] := by rw [hW]; exact (Bx.new0 _ _ _)
 replace hs := hs.trans hbw
 clear hW hG hk hbw
 have hz_w1 := B0.lt
 with_reducible refine (sc_above_true HAP.out (HL.out.mono PC.kept hs)).mono ?_
 rintro e w2 ⟨rfl, hb⟩
 replace hs := bStep hs hb
 replace B0 := B0.mono hb
 clear hb
 have q3 : ¬ (st < 1) := by omega
 have q3d : (st < 1) = False := eq_false (by omega)
 have q4 : 16 < st := by omega
 have q4d : ((16 : Int) < st) = True := eq_true (by omega)
 have B1 := B0.a0
 have B2 := B0.a1
 have B3 := B0.a2
 have finside := B0.free
 have Linside := B0.lt
 go_wp2
 clear B1 B2 B3 finside Linside
 refine bodyPost.abs ?_
 intro w3 hW
 have hG : Gr [w.heap.size] w2 w3 := by rw [hW]; exact (Gr.refl _ _).set.set.set
 have hsz := hs.size
 have linside := B0.lt
 have hbw : Below w.heap.size w2 w3 := hG.below1 hs.size (by first | omega | assumption)
 have hk : KeepD w2 w3 := hG.keep ⟨⟨_, B0.ty, by decide⟩, True.intro⟩
 have Bl1inside : Bx w3 (w.heap.size) 32 #[.bool false, .slice none 0 0, .slice none 0 0] := by rw [hW]; exact B0.set3
 replace hs := hs.trans hbw
 replace B0 := Bl1inside
 clear Bl1inside
 clear hW hG hk hbw hsz linside
 have B1 := B0.a0
 have B2 := B0.a1
 have B3 := B0.a2
 exact bodyPost_ret (v := .tuple #[.slice none 0 0, .slice none 0 0, .agg #[.bool false, .slice none 0 0, .slice none 0 0], .int .i64 1]) (by simp [results, Tryz.results10, go_sem, B1, B2, B3]) rfl ⟨_, _, _, _, rfl, rfl, rfl, (PV.zero _), rfl, hs⟩
theorem r7_Ring_few (v : Value) (L : List Rat) (st : Int) (w : World) (hl : Rows 3 38 RC w v L) (h0 : L.length < 2) :
  Calls Tryz.prog 11 #[v, .int .i64 st] w (Ret4 (fun _ v => v = .slice none 0 0) (fun _ v => v = .slice none 0 0) (fun w v => RV w v 0) (fun _ v => v = .int .i64 4) w) := by
 obtain ⟨ao, cap, rfl, hc1, hc2, hc3⟩ := hl.slice
 have hs := Below.refl w.heap.size w
 have HL := Lib.hid hl
 clear hl
 go_enter Tryz.func11, Tryz.ntmps11
 have q1 : L.length < 2 := by omega
 have q1d : ((L.length : Int) < 2) = True := eq_true (by omega)
 go_wp2_with fail
 refine Calls.abs ?_
 intro w1 hW
 have hG : Gr [] w w1 := by rw [hW]; exact (Gr.refl _ _).alloc
 have hbw : Below w.heap.size w w1 := hG.below0 hs.size
 have hk : KeepD w w1 := hG.keep True.intro
 have sz_w1 : w.heap.size ≤ w.heap.size := hs.size
 have Blk : Bx w1 (w.heap.size) 38 #[.bool false, .slice none 0 0, .slice none 0 0] := by rw [hW]; exact (Bx.new0 _ _ _)
 replace hs := hs.trans hbw
 clear hW hG hk hbw
 have hz_w1 := Blk.lt
 with_reducible refine (r7_zero _).mono ?_
 rintro e w2 ⟨_, rfl, h2, hb⟩
 obtain ⟨sh2, ah2, nh2, ch2, Ah2, Nh2, Ch2, rfl⟩ := h2.shape
 replace hs := bStep hs hb
 replace Blk := Blk.mono hb
 clear hb
 have B4 := Blk.a0
 have B5 := Blk.a1
 have B6 := Blk.a2
 have fk := Blk.free
 have Lk := Blk.lt
 go_wp2
 clear B4 B5 B6 fk Lk
 refine bodyPost.abs ?_
 intro w3 hW
 have hG : Gr [w.heap.size] w2 w3 := by rw [hW]; exact (Gr.refl _ _).set.set.set
 have hsz := hs.size
 have lk := Blk.lt
 have hbw : Below w.heap.size w2 w3 := hG.below1 hs.size (by first | omega | assumption)
 have hk : KeepD w2 w3 := hG.keep ⟨⟨_, Blk.ty, by decide⟩, True.intro⟩
 have Bl1k : Bx w3 (w.heap.size) 38 #[.bool sh2, .slice ah2 nh2 ch2, .slice Ah2 Nh2 Ch2] := by rw [hW]; exact Blk.set3
 replace hs := hs.trans hbw
 replace Blk := Bl1k
 clear Bl1k
 replace h2 := h2.keep hk
 clear hW hG hk hbw hsz lk
 have B4 := Blk.a0
 have B5 := Blk.a1
 have B6 := Blk.a2
 exact bodyPost_ret (v := .tuple #[.slice none 0 0, .slice none 0 0, .agg #[.bool sh2, .slice ah2 nh2 ch2, .slice Ah2 Nh2 Ch2], .int .i64 4]) (by simp [results, Tryz.results11, go_sem, B4, B5, B6]) rfl ⟨_, _, _, _, rfl, rfl, rfl, h2, rfl, hs⟩
theorem r7_Ring_many (v : Value) (L : List Rat) (st : Int) (w : World) (hl : Rows 3 38 RC w v L) (h0 : 12 < L.length) :
  Calls Tryz.prog 11 #[v, .int .i64 st] w (Ret4 (fun _ v => v = .slice none 0 0) (fun _ v => v = .slice none 0 0) (fun w v => RV w v 0) (fun _ v => v = .int .i64 4) w) := by
 obtain ⟨ao, cap, rfl, hc1, hc2, hc3⟩ := hl.slice
 have hs := Below.refl w.heap.size w
 have HL := Lib.hid hl
 clear hl
 go_enter Tryz.func11, Tryz.ntmps11
 have q1 : ¬ (L.length < 2) := by omega
 have q1d : ((L.length : Int) < 2) = False := eq_false (by omega)
 have q2 : 12 < L.length := by omega
 have q2d : ((12 : Int) < (L.length : Int)) = True := eq_true (by omega)
 go_wp2_with fail
 refine Calls.abs ?_
 intro w1 hW
 have hG : Gr [] w w1 := by rw [hW]; exact (Gr.refl _ _).alloc
 have hbw : Below w.heap.size w w1 := hG.below0 hs.size
 have hk : KeepD w w1 := hG.keep True.intro
 have sz_w1 : w.heap.size ≤ w.heap.size := hs.size
 have Blk : Bx w1 (w.heap.size) 38 #[.bool false, .slice none 0 0, .slice none 0 0] := by rw [hW]; exact (Bx.new0 _ _ _)
 replace hs := hs.trans hbw
 clear hW hG hk hbw
 have hz_w1 := Blk.lt
 with_reducible refine (r7_zero _).mono ?_
 rintro e w2 ⟨_, rfl, h3, hb⟩
 obtain ⟨sh3, ah3, nh3, ch3, Ah3, Nh3, Ch3, rfl⟩ := h3.shape
 replace hs := bStep hs hb
 replace Blk := Blk.mono hb
 clear hb
 have B4 := Blk.a0
 have B5 := Blk.a1
 have B6 := Blk.a2
 have fk := Blk.free
 have Lk := Blk.lt
 go_wp2
 clear B4 B5 B6 fk Lk
 refine bodyPost.abs ?_
 intro w3 hW
 have hG : Gr [w.heap.size] w2 w3 := by rw [hW]; exact (Gr.refl _ _).set.set.set
 have hsz := hs.size
 have lk := Blk.lt
 have hbw : Below w.heap.size w2 w3 := hG.below1 hs.size (by first | omega | assumption)
 have hk : KeepD w2 w3 := hG.keep ⟨⟨_, Blk.ty, by decide⟩, True.intro⟩
 have Bl1k : Bx w3 (w.heap.size) 38 #[.bool sh3, .slice ah3 nh3 ch3, .slice Ah3 Nh3 Ch3] := by rw [hW]; exact Blk.set3
 replace hs := hs.trans hbw
 replace Blk := Bl1k
 clear Bl1k
 replace h3 := h3.keep hk
 clear hW hG hk hbw hsz lk
 have B4 := Blk.a0
 have B5 := Blk.a1
 have B6 := Blk.a2
 exact bodyPost_ret (v := .tuple #[.slice none 0 0, .slice none 0 0, .agg #[.bool sh3, .slice ah3 nh3 ch3, .slice Ah3 Nh3 Ch3], .int .i64 4]) (by simp [results, Tryz.results11, go_sem, B4, B5, B6]) rfl ⟨_, _, _, _, rfl, rfl, rfl, h3, rfl, hs⟩
theorem r7_Ring_neg (v : Value) (L : List Rat) (st : Int) (w : World) (hl : Rows 3 38 RC w v L) (h0 : 2 ≤ L.length) (h1 : L.length ≤ 12) (m : Nat) (hm : m < L.length) (hm0 : nthQ L m ≤ 0) (hz : ∀ i, i < L.length → SzQ 1 (nthQ L i)) :
  Calls Tryz.prog 11 #[v, .int .i64 st] w (Ret4 (fun _ v => v = .slice none 0 0) (fun _ v => v = .slice none 0 0) (fun w v => RV w v 0) (fun _ v => v = .int .i64 1) w) := by
 obtain ⟨rb, ro, rc, rfl, hc1, hc2, -⟩ := hl.open_ (by omega)
 have hs := Below.refl w.heap.size w
 have HL := Lib.hid hl
 have HZ := Lib.hid hz
 have HM := Lib.hid hm0
 clear hl hz hm0
 go_enter Tryz.func11, Tryz.ntmps11
 have q1 : ¬ (L.length < 2) := by omega
 have q1d : ((L.length : Int) < 2) = False := eq_false (by omega)
 have q2 : ¬ (12 < L.length) := by omega
 have q2d : ((12 : Int) < (L.length : Int)) = False := eq_false (by omega)
 go_wp2
 refine Code.abs ?_
 intro w1 hW
 have hG : Gr [] w w1 := by rw [hW]; exact (Gr.refl _ _).alloc
 have hbw : Below w.heap.size w w1 := hG.below0 hs.size
 have hk : KeepD w w1 := hG.keep True.intro
 have sz_w1 : w.heap.size ≤ w.heap.size := hs.size
 have Blk : Bx w1 (w.heap.size) 38 #[.bool false, .slice none 0 0, .slice none 0 0] := by rw [hW]; exact (Bx.new0 _ _ _)
 replace hs := hs.trans hbw
 clear hW hG hk hbw
 have hz_w1 := Blk.lt
 go_loopw [8] (fun s8 wq => ∃ k : Nat, k ≤ m ∧ s8 = .int .i64 k ∧ Below w.heap.size w wq ∧ Bx wq (w.heap.size) 38 #[.bool false, .slice none 0 0, .slice none 0 0]) (fun s8 _ => m - (intOf s8).toNat)
 case atStart => exact ⟨0, Nat.zero_le _, rfl, hs, Blk⟩
 case round =>
  clear Blk hs
  obtain ⟨k, k_le, rfl, hs, Blk⟩ := hrel
  have him : ¬ (nthQ L k ≤ 0) → k + 1 ≤ m := fun h => Decidable.byContradiction fun h1 => h (by rw [show k = m by omega]; exact HM.out)
  have q3 : k < L.length := by omega
  have q3d : ((k : Int) < (L.length : Int)) = True := eq_true (by omega)
  have BI4a : k < L.length := by omega
  have BI4b : ((k : Int) : Int) < (L.length : Int) := by omega
  obtain ⟨ge5a, ae5a, ne5a, ce5a, Ae5a, Ne5a, De5a, B7, B8, B9, he5a, le5⟩ := rowR_at (HL.out.mono RC.kept hs) (show k < L.length by omega)
  go_wp2_with fail
  clear le5 B7 B8 B9
  with_reducible refine (rSign he5a).mono ?_
  rintro e w22 ⟨rfl, hb⟩
  replace hs := bStep hs hb
  replace Blk := Blk.mono hb
  replace he5a := he5a.mono hb
  clear hb
  obtain ⟨sg6, Hsg6⟩ : ∃ s : Int, s = sgQ (nthQ L k) := ⟨_, rfl⟩
  rw [← Hsg6]
  replace Hsg6 := Lib.hid Hsg6
  by_cases q7 : nthQ L k ≤ 0
  ·have q7_ : sg6 ≤ 0 := by have h := s1_le (nthQ L k); rw [← Hsg6.out] at h; exact h.2 q7
   have q7H := Lib.hid q7
   clear q7
   have q7d : decide (sg6 ≤ 0) = true := decide_eq_true q7_
   go_wp2_with fail
   with_reducible refine (r7_zero _).mono ?_
   rintro e w23 ⟨_, rfl, h8, hb⟩
   obtain ⟨sh8, ah8, nh8, ch8, Ah8, Nh8, Ch8, rfl⟩ := h8.shape
   replace hs := bStep hs hb
   replace Blk := Blk.mono hb
   replace he5a := he5a.mono hb
   clear hb
   have B4 := Blk.a0
   have B5 := Blk.a1
   have B6 := Blk.a2
   have fk := Blk.free
   have Lk := Blk.lt
   go_wp2
   clear B4 B5 B6 fk Lk
   refine bodyPost.abs ?_
   intro w24 hW
   have hG : Gr [w.heap.size] w23 w24 := by rw [hW]; exact (Gr.refl _ _).set.set.set
   have hsz := hs.size
   have lk := Blk.lt
   have hbw : Below w.heap.size w23 w24 := hG.below1 hs.size (by first | omega | assumption)
   have hk : KeepD w23 w24 := hG.keep ⟨⟨_, Blk.ty, by decide⟩, True.intro⟩
   have Bl1k : Bx w24 (w.heap.size) 38 #[.bool sh8, .slice ah8 nh8 ch8, .slice Ah8 Nh8 Ch8] := by rw [hW]; exact Blk.set3
   replace hs := hs.trans hbw
   replace Blk := Bl1k
   clear Bl1k
   replace he5a := he5a.keep hk
   replace h8 := h8.keep hk
   clear hW hG hk hbw hsz lk
   have B4 := Blk.a0
   have B5 := Blk.a1
   have B6 := Blk.a2
   exact bodyPost_ret (v := .tuple #[.slice none 0 0, .slice none 0 0, .agg #[.bool sh8, .slice ah8 nh8 ch8, .slice Ah8 Nh8 Ch8], .int .i64 1]) (by simp [results, Tryz.results11, go_sem, B4, B5, B6]) rfl ⟨_, _, _, _, rfl, rfl, rfl, h8, rfl, hs⟩
  ·have q7_ : ¬ (sg6 ≤ 0) := by have h := s1_le (nthQ L k); rw [← Hsg6.out] at h; exact fun h1 => q7 (h.1 h1)
   have q7H := Lib.hid q7
   clear q7
   have q7d : decide (sg6 ≤ 0) = false := decide_eq_false q7_
   have hi1 := him q7H.out
   go_wp2
   go_roundw
   case rel => exact ⟨k + 1, by omega, by go_num, hs, Blk⟩
   all_goals first | (simp [intOf]; done) | (simp [intOf]; omega)
theorem r7_Ring_s0 (v : Value) (L : List Rat) (st : Int) (w : World) (hl : Rows 3 38 RC w v L) (h0 : 2 ≤ L.length) (h1 : L.length ≤ 12) (hap : allPos L = true) (hz : ∀ i, i < L.length → SzQ 1 (nthQ L i)) (hst : st < 1) :
  Calls Tryz.prog 11 #[v, .int .i64 st] w (Ret4 (fun _ v => v = .slice none 0 0) (fun _ v => v = .slice none 0 0) (fun w v => RV w v 0) (fun _ v => v = .int .i64 1) w) := by
 obtain ⟨rb, ro, rc, rfl, hc1, hc2, -⟩ := hl.open_ (by omega)
 have hs := Below.refl w.heap.size w
 have HL := Lib.hid hl
 have HAP := Lib.hid hap
 have hp := nthQ_pos hap
 have HPP := Lib.hid (fun i (hi : i < L.length) => hp i hi)
 have HZ := Lib.hid hz
 clear hl hap hp hz
 go_enter Tryz.func11, Tryz.ntmps11
 have q1 : ¬ (L.length < 2) := by omega
 have q1d : ((L.length : Int) < 2) = False := eq_false (by omega)
 have q2 : ¬ (12 < L.length) := by omega
 have q2d : ((12 : Int) < (L.length : Int)) = False := eq_false (by omega)
 go_wp2
 refine Code.abs ?_
 intro w1 hW
 have hG : Gr [] w w1 := by rw [hW]; exact (Gr.refl _ _).alloc
 have hbw : Below w.heap.size w w1 := hG.below0 hs.size
 have hk : KeepD w w1 := hG.keep True.intro
 have sz_w1 : w.heap.size ≤ w.heap.size := hs.size
 have Blk : Bx w1 (w.heap.size) 38 #[.bool false, .slice none 0 0, .slice none 0 0] := by rw [hW]; exact (Bx.new0 _ _ _)
 replace hs := hs.trans hbw
 clear hW hG hk hbw
 have hz_w1 := Blk.lt
 go_loopw [8] (fun s8 wq => ∃ k : Nat, k ≤ L.length ∧ s8 = .int .i64 k ∧ Below w.heap.size w wq ∧ Bx wq (w.heap.size) 38 #[.bool false, .slice none 0 0, .slice none 0 0]) (fun s8 _ => L.length - (intOf s8).toNat)
 case atStart => exact ⟨0, Nat.zero_le _, rfl, hs, Blk⟩
 case round =>
  clear Blk hs
  obtain ⟨k, k_le, rfl, hs, Blk⟩ := hrel
  by_cases q3 : k < L.length
  ·have q3d : ((k : Int) < (L.length : Int)) = True := eq_true (by omega)
   have BI4a : k < L.length := by omega
   have BI4b : ((k : Int) : Int) < (L.length : Int) := by omega
   obtain ⟨ge5a, ae5a, ne5a, ce5a, Ae5a, Ne5a, De5a, B7, B8, B9, he5a, le5⟩ := rowR_at (HL.out.mono RC.kept hs) (show k < L.length by omega)
   go_wp2_with fail
   clear le5 B7 B8 B9
   with_reducible refine (rSign he5a).mono ?_
   rintro e w22 ⟨rfl, hb⟩
   replace hs := bStep hs hb
   replace Blk := Blk.mono hb
   replace he5a := he5a.mono hb
   clear hb
   obtain ⟨sg6, Hsg6⟩ : ∃ s : Int, s = sgQ (nthQ L k) := ⟨_, rfl⟩
   rw [← Hsg6]
   replace Hsg6 := Lib.hid Hsg6
   have q7 : ¬ (nthQ L k ≤ 0) := (Rat.not_le.2 (HPP.out k (by omega)))
   have q7_ : ¬ (sg6 ≤ 0) := by have h := s1_le (nthQ L k); rw [← Hsg6.out] at h; exact fun h1 => q7 (h.1 h1)
   have q7H := Lib.hid q7
   clear q7
   have q7d : decide (sg6 ≤ 0) = false := decide_eq_false q7_
   go_wp2
   go_roundw
   case rel => exact ⟨k + 1, by omega, by go_num, hs, Blk⟩
   all_goals first | (simp [intOf]; done) | (simp [intOf]; omega)
  ·have q3d : ((k : Int) < (L.length : Int)) = False := eq_false (by omega)
   have q4 : st < 1 := by omega
   have q4d : (st < 1) = True := eq_true (by omega)
   go_wp2_with fail
   with_reducible refine (r7_zero _).mono ?_
   rintro e w22 ⟨_, rfl, h5, hb⟩
   obtain ⟨sh5, ah5, nh5, ch5, Ah5, Nh5, Ch5, rfl⟩ := h5.shape
   replace hs := bStep hs hb
   replace Blk := Blk.mono hb
   clear hb
   have B4 := Blk.a0
   have B5 := Blk.a1
   have B6 := Blk.a2
   have fk := Blk.free
   have Lk := Blk.lt
   go_wp2
   clear B4 B5 B6 fk Lk
   refine bodyPost.abs ?_
   intro w23 hW
   have hG : Gr [w.heap.size] w22 w23 := by rw [hW]; exact (Gr.refl _ _).set.set.set
   have hsz := hs.size
   have lk := Blk.lt
   have hbw : Below w.heap.size w22 w23 := hG.below1 hs.size (by first | omega | assumption)
   have hk : KeepD w22 w23 := hG.keep ⟨⟨_, Blk.ty, by decide⟩, True.intro⟩
   have Bl1k : Bx w23 (w.heap.size) 38 #[.bool sh5, .slice ah5 nh5 ch5, .slice Ah5 Nh5 Ch5] := by rw [hW]; exact Blk.set3
   replace hs := hs.trans hbw
   replace Blk := Bl1k
   clear Bl1k
   replace h5 := h5.keep hk
   clear hW hG hk hbw hsz lk
   have B4 := Blk.a0
   have B5 := Blk.a1
   have B6 := Blk.a2
   exact bodyPost_ret (v := .tuple #[.slice none 0 0, .slice none 0 0, .agg #[.bool sh5, .slice ah5 nh5 ch5, .slice Ah5 Nh5 Ch5], .int .i64 1]) (by simp [results, Tryz.results11, go_sem, B4, B5, B6]) rfl ⟨_, _, _, _, rfl, rfl, rfl, h5, rfl, hs⟩
theorem r7_Ring_s17 (v : Value) (L : List Rat) (st : Int) (w : World) (hl : Rows 3 38 RC w v L) (h0 : 2 ≤ L.length) (h1 : L.length ≤ 12) (hap : allPos L = true) (hz : ∀ i, i < L.length → SzQ 1 (nthQ L i)) (hst : 16 < st) :
  Calls Tryz.prog 11 #[v, .int .i64 st] w (Ret4 (fun _ v => v = .slice none 0 0) (fun _ v => v = .slice none 0 0) (fun w v => RV w v 0) (fun _ v => v = .int .i64 1) w) := by
 obtain ⟨rb, ro, rc, rfl, hc1, hc2, -⟩ := hl.open_ (by omega)
 have hs := Below.refl w.heap.size w
 have HL := Lib.hid hl
 have HAP := Lib.hid hap
 have hp := nthQ_pos hap
 have HPP := Lib.hid (fun i (hi : i < L.length) => hp i hi)
 have HZ := Lib.hid hz
 clear hl hap hp hz
 go_enter Tryz.func11, Tryz.ntmps11
 have q1 : ¬ (L.length < 2) := by omega
 have q1d : ((L.length : Int) < 2) = False := eq_false (by omega)
 have q2 : ¬ (12 < L.length) := by omega
 have q2d : ((12 : Int) < (L.length : Int)) = False := eq_false (by omega)
 go_wp2
 refine Code.abs ?_
 intro w1 hW
 have hG : Gr [] w w1 := by rw [hW]; exact (Gr.refl _ _).alloc
 have hbw : Below w.heap.size w w1 := hG.below0 hs.size
 have hk : KeepD w w1 := hG.keep True.intro
 have sz_w1 : w.heap.size ≤ w.heap.size := hs.size
 have Blk : Bx w1 (w.heap.size) 38 #[.bool false, .slice none 0 0, .slice none 0 0] := by rw [hW]; exact (Bx.new0 _ _ _)
 replace hs := hs.trans hbw
 clear hW hG hk hbw
 have hz_w1 := Blk.lt
 go_loopw [8] (fun s8 wq => ∃ k : Nat, k ≤ L.length ∧ s8 = .int .i64 k ∧ Below w.heap.size w wq ∧ Bx wq (w.heap.size) 38 #[.bool false, .slice none 0 0, .slice none 0 0]) (fun s8 _ => L.length - (intOf s8).toNat)
 case atStart => exact ⟨0, Nat.zero_le _, rfl, hs, Blk⟩
 case round =>
  clear Blk hs
  obtain ⟨k, k_le, rfl, hs, Blk⟩ := hrel
  by_cases q3 : k < L.length
  ·have q3d : ((k : Int) < (L.length : Int)) = True := eq_true (by omega)
   have BI4a : k < L.length := by omega
   have BI4b : ((k : Int) : Int) < (L.length : Int) := by omega
   obtain ⟨ge5a, ae5a, ne5a, ce5a, Ae5a, Ne5a, De5a, B7, B8, B9, he5a, le5⟩ := rowR_at (HL.out.mono RC.kept hs) (show k < L.length by omega)
   go_wp2_with fail
   clear le5 B7 B8 B9
   with_reducible refine (rSign he5a).mono ?_
   rintro e w22 ⟨rfl, hb⟩
   replace hs := bStep hs hb
   replace Blk := Blk.mono hb
   replace he5a := he5a.mono hb
   clear hb
   obtain ⟨sg6, Hsg6⟩ : ∃ s : Int, s = sgQ (nthQ L k) := ⟨_, rfl⟩
   rw [← Hsg6]
   replace Hsg6 := Lib.hid Hsg6
   have q7 : ¬ (nthQ L k ≤ 0) := (Rat.not_le.2 (HPP.out k (by omega)))
   have q7_ : ¬ (sg6 ≤ 0) := by have h := s1_le (nthQ L k); rw [← Hsg6.out] at h; exact fun h1 => q7 (h.1 h1)
   have q7H := Lib.hid q7
   clear q7
   have q7d : decide (sg6 ≤ 0) = false := decide_eq_false q7_
   go_wp2
   go_roundw
   case rel => exact ⟨k + 1, by omega, by go_num, hs, Blk⟩
   all_goals first | (simp [intOf]; done) | (simp [intOf]; omega)
  ·have q3d : ((k : Int) < (L.length : Int)) = False := eq_false (by omega)
   have q4 : ¬ (st < 1) := by omega
   have q4d : (st < 1) = False := eq_false (by omega)
   have q5 : 16 < st := by omega
   have q5d : ((16 : Int) < st) = True := eq_true (by omega)
   go_wp2_with fail
   with_reducible refine (r7_zero _).mono ?_
   rintro e w22 ⟨_, rfl, h6, hb⟩
   obtain ⟨sh6, ah6, nh6, ch6, Ah6, Nh6, Ch6, rfl⟩ := h6.shape
   replace hs := bStep hs hb
   replace Blk := Blk.mono hb
   clear hb
   have B4 := Blk.a0
   have B5 := Blk.a1
   have B6 := Blk.a2
   have fk := Blk.free
   have Lk := Blk.lt
   go_wp2
   clear B4 B5 B6 fk Lk
   refine bodyPost.abs ?_
   intro w23 hW
   have hG : Gr [w.heap.size] w22 w23 := by rw [hW]; exact (Gr.refl _ _).set.set.set
   have hsz := hs.size
   have lk := Blk.lt
   have hbw : Below w.heap.size w22 w23 := hG.below1 hs.size (by first | omega | assumption)
   have hk : KeepD w22 w23 := hG.keep ⟨⟨_, Blk.ty, by decide⟩, True.intro⟩
   have Bl1k : Bx w23 (w.heap.size) 38 #[.bool sh6, .slice ah6 nh6 ch6, .slice Ah6 Nh6 Ch6] := by rw [hW]; exact Blk.set3
   replace hs := hs.trans hbw
   replace Blk := Bl1k
   clear Bl1k
   replace h6 := h6.keep hk
   clear hW hG hk hbw hsz lk
   have B4 := Blk.a0
   have B5 := Blk.a1
   have B6 := Blk.a2
   exact bodyPost_ret (v := .tuple #[.slice none 0 0, .slice none 0 0, .agg #[.bool sh6, .slice ah6 nh6 ch6, .slice Ah6 Nh6 Ch6], .int .i64 1]) (by simp [results, Tryz.results11, go_sem, B4, B5, B6]) rfl ⟨_, _, _, _, rfl, rfl, rfl, h6, rfl, hs⟩
theorem not_pos {L : List Rat} (h : allPos L = false) : ∃ m, m < L.length ∧ nthQ L m ≤ 0 := by
 refine Decidable.byContradiction fun hn => ?_
 have : allPos L = true := by
  unfold allPos
  refine List.all_eq_true.2 fun x hx => decide_eq_true ?_
  obtain ⟨i, hi, rfl⟩ := List.getElem_of_mem hx
  refine Rat.not_le.1 fun h1 => hn ⟨i, hi, ?_⟩
  have e := nthQ_some hi
  rw [List.getElem?_eq_getElem hi] at e
  rw [← Option.some.inj e]; exact h1
 rw [h] at this; cases this
theorem sc_Ring_all (v : Value) (L : List Rat) (st : Int) (w : World) (hl : Rows 3 32 PC w v L) (hz : ∀ i, i < L.length → SzQ 1 (nthQ L i)) (h5 : L.length ≤ 5 ∨ 12 < L.length) (h6 : st ≤ 6 ∨ 16 < st) :
  Calls Tryz.prog 10 #[v, .int .i64 st] w (Ret4 (fun w v => Rows 3 32 PC w v (rngB L st)) (fun w v => Rows 3 32 PC w v (rngT L st)) (fun w v => PV w v (rngI L st)) (fun _ v => v = .int .i64 (rngE L st)) w) := by
 by_cases a1 : L.length < 2
 ·have e0 : rngE L st = 4 := by unfold rngE; rw [if_pos a1]
  rw [show rngB L st = [] by unfold rngB; rw [e0]; rfl, show rngT L st = [] by unfold rngT; rw [e0]; rfl, show rngI L st = 0 by unfold rngI; rw [e0]; rfl, e0]
  refine (sc_Ring_few v L st w hl a1).mono ?_
  rintro e w1 ⟨_, _, _, _, rfl, rfl, rfl, h3, h4, h5⟩
  exact ⟨_, _, _, _, rfl, Rows.nil_ _, Rows.nil_ _, h3, h4, h5⟩
 ·by_cases a2 : 12 < L.length
  ·have e0 : rngE L st = 4 := by unfold rngE; rw [if_neg a1, if_pos a2]
   rw [show rngB L st = [] by unfold rngB; rw [e0]; rfl, show rngT L st = [] by unfold rngT; rw [e0]; rfl, show rngI L st = 0 by unfold rngI; rw [e0]; rfl, e0]
   refine (sc_Ring_many v L st w hl a2).mono ?_
   rintro e w1 ⟨_, _, _, _, rfl, rfl, rfl, h3, h4, h5⟩
   exact ⟨_, _, _, _, rfl, Rows.nil_ _, Rows.nil_ _, h3, h4, h5⟩
  ·by_cases a3 : allPos L = true
   ·by_cases a4 : st < 1
    ·have e0 : rngE L st = 1 := by unfold rngE; rw [if_neg a1, if_neg a2, if_pos a3, if_pos a4]
     rw [show rngB L st = [] by unfold rngB; rw [e0]; rfl, show rngT L st = [] by unfold rngT; rw [e0]; rfl, show rngI L st = 0 by unfold rngI; rw [e0]; rfl, e0]
     refine (sc_Ring_s0 v L st w hl (by omega) (by omega) a3 a4).mono ?_
     rintro e w1 ⟨_, _, _, _, rfl, rfl, rfl, h3, h4, h5⟩
     exact ⟨_, _, _, _, rfl, Rows.nil_ _, Rows.nil_ _, h3, h4, h5⟩
    ·by_cases a5 : 16 < st
     ·have e0 : rngE L st = 1 := by unfold rngE; rw [if_neg a1, if_neg a2, if_pos a3, if_neg a4, if_pos a5]
      rw [show rngB L st = [] by unfold rngB; rw [e0]; rfl, show rngT L st = [] by unfold rngT; rw [e0]; rfl, show rngI L st = 0 by unfold rngI; rw [e0]; rfl, e0]
      refine (sc_Ring_s17 v L st w hl (by omega) (by omega) a3 a5).mono ?_
      rintro e w1 ⟨_, _, _, _, rfl, rfl, rfl, h3, h4, h5⟩
      exact ⟨_, _, _, _, rfl, Rows.nil_ _, Rows.nil_ _, h3, h4, h5⟩
     ·have e0 : rngE L st = 0 := by unfold rngE; rw [if_neg a1, if_neg a2, if_pos a3, if_neg a4, if_neg a5]
      rw [show rngB L st = rgBks L st.toNat by unfold rngB; rw [if_pos e0], show rngT L st = rgThs L st.toNat by unfold rngT; rw [if_pos e0], show rngI L st = rgIns L st.toNat by unfold rngI; rw [if_pos e0], e0]
      have := sc_Ring_ok v L st.toNat w hl (by omega) (by omega) hz a3 (by omega) (by omega)
      rwa [show ((st.toNat : Nat) : Int) = st by omega] at this
   ·have e0 : rngE L st = 1 := by unfold rngE; rw [if_neg a1, if_neg a2, if_neg a3]
    rw [show rngB L st = [] by unfold rngB; rw [e0]; rfl, show rngT L st = [] by unfold rngT; rw [e0]; rfl, show rngI L st = 0 by unfold rngI; rw [e0]; rfl, e0]
    refine (sc_Ring_neg v L st w hl (by omega) (by omega) (Bool.eq_false_iff.2 a3)).mono ?_
    rintro e w1 ⟨_, _, _, _, rfl, rfl, rfl, h3, h4, h5⟩
    exact ⟨_, _, _, _, rfl, Rows.nil_ _, Rows.nil_ _, h3, h4, h5⟩
theorem r7_Ring_all (v : Value) (L : List Rat) (st : Int) (w : World) (hl : Rows 3 38 RC w v L) (hz : ∀ i, i < L.length → SzQ 1 (nthQ L i)) (h5 : L.length ≤ 5 ∨ 12 < L.length) (h6 : st ≤ 6 ∨ 16 < st) :
  Calls Tryz.prog 11 #[v, .int .i64 st] w (Ret4 (fun w v => Rows 3 38 RC w v (rngB L st)) (fun w v => Rows 3 38 RC w v (rngT L st)) (fun w v => RV w v (rngI L st)) (fun _ v => v = .int .i64 (rngE L st)) w) := by
 by_cases a1 : L.length < 2
 ·have e0 : rngE L st = 4 := by unfold rngE; rw [if_pos a1]
  rw [show rngB L st = [] by unfold rngB; rw [e0]; rfl, show rngT L st = [] by unfold rngT; rw [e0]; rfl, show rngI L st = 0 by unfold rngI; rw [e0]; rfl, e0]
  refine (r7_Ring_few v L st w hl a1).mono ?_
  rintro e w1 ⟨_, _, _, _, rfl, rfl, rfl, h3, h4, h5⟩
  exact ⟨_, _, _, _, rfl, Rows.nil_ _, Rows.nil_ _, h3, h4, h5⟩
 ·by_cases a2 : 12 < L.length
  ·have e0 : rngE L st = 4 := by unfold rngE; rw [if_neg a1, if_pos a2]
   rw [show rngB L st = [] by unfold rngB; rw [e0]; rfl, show rngT L st = [] by unfold rngT; rw [e0]; rfl, show rngI L st = 0 by unfold rngI; rw [e0]; rfl, e0]
   refine (r7_Ring_many v L st w hl a2).mono ?_
   rintro e w1 ⟨_, _, _, _, rfl, rfl, rfl, h3, h4, h5⟩
   exact ⟨_, _, _, _, rfl, Rows.nil_ _, Rows.nil_ _, h3, h4, h5⟩
  ·by_cases a3 : allPos L = true
   ·by_cases a4 : st < 1
    ·have e0 : rngE L st = 1 := by unfold rngE; rw [if_neg a1, if_neg a2, if_pos a3, if_pos a4]
     rw [show rngB L st = [] by unfold rngB; rw [e0]; rfl, show rngT L st = [] by unfold rngT; rw [e0]; rfl, show rngI L st = 0 by unfold rngI; rw [e0]; rfl, e0]
     refine (r7_Ring_s0 v L st w hl (by omega) (by omega) a3 hz a4).mono ?_
     rintro e w1 ⟨_, _, _, _, rfl, rfl, rfl, h3, h4, h5⟩
     exact ⟨_, _, _, _, rfl, Rows.nil_ _, Rows.nil_ _, h3, h4, h5⟩
    ·by_cases a5 : 16 < st
     ·have e0 : rngE L st = 1 := by unfold rngE; rw [if_neg a1, if_neg a2, if_pos a3, if_neg a4, if_pos a5]
      rw [show rngB L st = [] by unfold rngB; rw [e0]; rfl, show rngT L st = [] by unfold rngT; rw [e0]; rfl, show rngI L st = 0 by unfold rngI; rw [e0]; rfl, e0]
      refine (r7_Ring_s17 v L st w hl (by omega) (by omega) a3 hz a5).mono ?_
      rintro e w1 ⟨_, _, _, _, rfl, rfl, rfl, h3, h4, h5⟩
      exact ⟨_, _, _, _, rfl, Rows.nil_ _, Rows.nil_ _, h3, h4, h5⟩
     ·have e0 : rngE L st = 0 := by unfold rngE; rw [if_neg a1, if_neg a2, if_pos a3, if_neg a4, if_neg a5]
      rw [show rngB L st = rgBks L st.toNat by unfold rngB; rw [if_pos e0], show rngT L st = rgThs L st.toNat by unfold rngT; rw [if_pos e0], show rngI L st = rgIns L st.toNat by unfold rngI; rw [if_pos e0], e0]
      have := r7_Ring_ok v L st.toNat w hl (by omega) (by omega) hz a3 (by omega) (by omega)
      rwa [show ((st.toNat : Nat) : Int) = st by omega] at this
   ·obtain ⟨m, hm, hm0⟩ := not_pos (Bool.eq_false_iff.2 a3)
    have e0 : rngE L st = 1 := by unfold rngE; rw [if_neg a1, if_neg a2, if_neg a3]
    rw [show rngB L st = [] by unfold rngB; rw [e0]; rfl, show rngT L st = [] by unfold rngT; rw [e0]; rfl, show rngI L st = 0 by unfold rngI; rw [e0]; rfl, e0]
    refine (r7_Ring_neg v L st w hl (by omega) (by omega) m hm hm0 hz).mono ?_
    rintro e w1 ⟨_, _, _, _, rfl, rfl, rfl, h3, h4, h5⟩
    exact ⟨_, _, _, _, rfl, Rows.nil_ _, Rows.nil_ _, h3, h4, h5⟩
end Go.Proofs.YtkfekkhhfpkfaaaGreat
