/-
  The runs of a look-up, of a length, of a store of a new key: of a map of batches that has none, or just one, b1. No function of the program is walked here.
-/
import Derived.Test.YtlmemilmhdhgbaaGreatPkAlBO
import Derived.MapKept
set_option linter.unusedSimpArgs false
set_option linter.unusedVariables false
set_option maxRecDepth 100000
set_option maxHeartbeats 4000000
namespace Go.Proofs.YtlmemilmhdhgbaaGreat
open Go.RowKit Dg Go.MapKept
theorem b1_key : IsKey .string (.string ⟨#[98, 49]⟩) := trivial
theorem map_look0 {w : World} {m c : Nat} (hm : w.heap[m]? = some (.map #[] c)) : (Instr.lookup 94 (.map (some m)) (.string ⟨#[98, 49]⟩) true).run Tryz.prog w = .ok (.tuple #[.agg #[.slice none 0 0, .bool false], .bool false]) w := by
 have h1 : (Instr.checkKey true 10000 9 (.string ⟨#[98, 49]⟩)).run Tryz.prog w = .ok () w := run_checkKey Tryz.underlying9 b1_key true 9999
 have h2 : (Instr.findKey 9 (.string ⟨#[98, 49]⟩) []).run Tryz.prog w = .ok none w := run_findKey Tryz.underlying9 rfl
 have h3 : (zeroValue 101).run Tryz.prog w = .ok (.agg #[.slice none 0 0, .bool false]) w := by kernel_rfl
 unfold Instr.lookup
 simp [run_underlying Tryz.underlying94, Go.MapKept.run_getObj_map hm, h1, h2, h3]
theorem map_look1 {w : World} {m c d : Nat} {x : Value} (hm : w.heap[m]? = some (.map #[⟨(.string ⟨#[98, 49]⟩), x, c⟩] d)) : (Instr.lookup 94 (.map (some m)) (.string ⟨#[98, 49]⟩) true).run Tryz.prog w = .ok (.tuple #[x, .bool true]) w := by
 have h1 : (Instr.checkKey false 10000 9 (.string ⟨#[98, 49]⟩)).run Tryz.prog w = .ok () w := run_checkKey Tryz.underlying9 b1_key false 9999
 have h2 : (Instr.findKey 9 (.string ⟨#[98, 49]⟩) [⟨(.string ⟨#[98, 49]⟩), x, c⟩]).run Tryz.prog w = .ok (some (0, x)) w := run_findKey Tryz.underlying9 rfl
 unfold Instr.lookup
 simp [run_underlying Tryz.underlying94, Go.MapKept.run_getObj_map hm, h1, h2]
theorem map_len0 {w : World} {m c : Nat} (hm : w.heap[m]? = some (.map #[] c)) (ty : TypeId) : (Builtin.len_ #[94] ty #[.map (some m)]).run Tryz.prog w = .ok (.int .i64 0) w := by
 unfold Builtin.len_
 simp [run_underlying Tryz.underlying94, Go.MapKept.run_getObj_map hm]
 rfl
theorem map_new {w : World} {m c : Nat} (hm : w.heap[m]? = some (.map #[] c)) (x : Value) : ∃ w', (Instr.mapUpdate 94 (.map (some m)) (.string ⟨#[98, 49]⟩) x).run Tryz.prog w = .ok () w' ∧ w'.heap[m]? = some (.map #[⟨(.string ⟨#[98, 49]⟩), x, c⟩] (c + 1)) ∧ Gr [m] w w' := by
 have h1 : (Instr.checkKey false 10000 9 (.string ⟨#[98, 49]⟩)).run Tryz.prog w = .ok () w := run_checkKey Tryz.underlying9 b1_key false 9999
 have h2 : (Instr.findKey 9 (.string ⟨#[98, 49]⟩) []).run Tryz.prog w = .ok none w := run_findKey Tryz.underlying9 rfl
 refine ⟨{ w with heap := w.heap.setIfInBounds m (.map #[⟨(.string ⟨#[98, 49]⟩), x, c⟩] (c + 1)) }, ?_, ?_, ⟨rfl, rfl, rfl, by simp, fun k hk hn => ?_⟩⟩
 ·unfold Instr.mapUpdate
  simp [run_underlying Tryz.underlying94, Go.MapKept.run_getObj_map hm, h1, h2, run_setObj_map _ hm]
 ·have := lt_of_block hm
  simp [this]
 ·have : k ≠ m := fun e => hn (by rw [e]; exact .head _)
  simp [Array.getElem?_setIfInBounds, Ne.symm this]
end Go.Proofs.YtlmemilmhdhgbaaGreat
namespace Go.Proofs.YtlmemilmhdhgbaaGreat
open Go.RowKit Dg
attribute [local go_sem ↓] Go.wp_at_zero Go.wp_at_succ
theorem OwnR.empty {base g : Nat} {T : TypeId} {w : World} (h : Bx w g T #[]) (hb : base ≤ g) : OwnR base T 3 PC w (.slice (some ⟨g, 0, none⟩) 0 0) [] :=
 ⟨[], rfl, by simp, by simp, rfl, .inr ⟨g, 0, #[], rfl, hb, h, Nat.le_refl _, Nat.zero_le _, rfl, rfl⟩⟩
theorem al_Clone {v : Value} {l : List Rat} (w : World) (hl : Rows 3 34 PC w v l) (h1 : 1 ≤ l.length) (h2 : l.length ≤ 64) : Calls Tryz.prog 58 #[v] w (Ret1 (fun w v => Rows 3 34 PC w v l) w) := by
 obtain ⟨ba, oa, ca, rfl, ha1, ha2, -⟩ := hl.open_ (by omega)
 obtain ⟨i0, hi, hz0, hz1, hz2⟩ := info_parts alP_info
 have hs := Below.refl w.heap.size w
 have hq := fun w => Go.Lib.run_eql_slice_nil (P := Tryz.prog) w 27 34 (some ⟨ba, oa, none⟩) l.length ca 0 0 Tryz.underlying27
 go_enter Tryz.func58, Tryz.ntmps58
 go_wp2_with (at_builtin; refine wpList.stop ?_)
 refine ⟨?_⟩
 refine wpList.abs ?_
 intro w1 hW
 have Ble : Bx w1 w.heap.size 34 #[] := by rw [hW]; exact Bx.new _ _ _
 have hbb : Below w.heap.size w w1 := by rw [hW]; exact (Below.refl _ _).alloc (Nat.le_refl _) _
 replace hs := bStep hs hbb
 replace hl := hl.mono PC.kept hbb
 have Opa : OwnR w.heap.size 34 3 PC w1 _ [] := OwnR.empty Ble (Nat.le_refl _)
 clear hbb hW Ble
 obtain ⟨css, ho1, ho2, ho3, hown0⟩ := Opa
 obtain ⟨dss, d1, d2, d3, d4, d5⟩ := rows_flat hl
 refine wpList_append_lies _ rfl _ _ _ rfl w.heap.size 34 i0 _ 3 56 Tryz.underlying27 hi hz0 hz1 hz2 rfl (by omega) _ _ css.flatten rfl hown0 ⟨ba, oa, none⟩ l.length ca dss.flatten rfl (by rw [flat_length _ d2, d1]) d5 d4 (by omega) ?_ ?_ hs.size _ rfl ?_
 ·unfold maxLen; simp only [List.length_nil]; omega
 ·simp only [List.length_nil]; omega
 intro g cap w4 hown1 hgrow hat hlt_
 have hk_ := KeepD.owns hown0 hgrow (by decide)
 replace hs := hs.grown hgrow hs.size (fun k hk => (hown0.lt k hk).1)
 have Opa := OwnR.pushL ho1 ho2 ho3 d1 d2 d3 hown1 hk_
 clear hk_ ho1 ho2 ho3 hown0 hown1 hgrow hat hlt_ d1 d2 d3 d4 d5 hl
 simp only [List.length_nil, Nat.zero_add, List.nil_append] at Opa
 have hR := Lib.hid Opa.rows
 clear Opa
 go_wp2
 go_ret
 exact ⟨_, rfl, hR.out, hs⟩
theorem al_isName_b1 (w : World) : Calls Tryz.prog 57 #[(.string ⟨#[98, 49]⟩)] w (RetV w (.bool true)) := by
 have hs := Below.refl w.heap.size w
 go_enter Tryz.func57, Tryz.ntmps57
 go_wp2
 go_rounds 3
 go_ret
 exact ⟨rfl, hs⟩
theorem al_New (w : World) : Calls Tryz.prog 21 #[] w (fun e w' => ∃ g m m2, e = .returned (.pointer (some ⟨g, 0, none⟩)) ∧ Bx w' g 98 #[.map (some m), .map (some m2), .slice none 0 0] ∧ w'.heap[m]? = some (.map #[] 0) ∧ w.heap.size ≤ m ∧ m ≠ g ∧ Below w.heap.size w w') := by
 have hmm := @run_makeMap Tryz.prog
 go_enter Tryz.func21, Tryz.ntmps21
 go_wp2
 go_ret
 refine ⟨_, _, _, rfl, Bx.new' _ _ _ _ (by simp), ?_, Nat.le_refl _, by omega, ?_⟩
 ·exact ((Below.heap_alloc _ _ _ (by simp; omega)).trans ((Below.heap_alloc _ _ _ (by simp)).trans (heap_alloc_new _ _)))
 ·exact ((Below.alloc (Below.alloc (Below.alloc (Below.refl _ _) (Nat.le_refl _) _) (by simp) _) (by simp; omega) _))
theorem al_Enter2 {v : Value} {g m : Nat} {x2 x3 : Value} {x : Value} {c d : Nat} (w : World) (hB : Bx w g 98 #[.map (some m), x2, x3]) (hm : w.heap[m]? = some (.map #[⟨(.string ⟨#[98, 49]⟩), x, c⟩] d)) (hx : ∃ a n c z, x = .agg #[.slice a n c, .bool z]) :
  Calls Tryz.prog 22 #[.pointer (some ⟨g, 0, none⟩), (.string ⟨#[98, 49]⟩), v] w (RetV w (.int .i64 8)) := by
 obtain ⟨ya, yn, yc, z, rfl⟩ := hx
 have hs := Below.refl w.heap.size w
 go_enter Tryz.func22, Tryz.ntmps22
 go_wp2_with fail
 refine (al_isName_b1 w).mono ?_
 rintro e w1 ⟨rfl, hbb⟩
 replace hs := bStep hs hbb
 replace hm := (hbb.block m (lt_of_block hm)).trans hm
 replace hB := hB.mono hbb
 clear hbb
 have c0 := hB.at 0 rfl
 have hl := map_look1 hm
 go_wp2
 go_ret
 exact ⟨rfl, (Below.alloc hs hs.size _)⟩
theorem al_Enter1 {v : Value} {g m : Nat} {x2 x3 : Value} {l : List Rat} {c : Nat} (w : World) (hB : Bx w g 98 #[.map (some m), x2, x3]) (hm : w.heap[m]? = some (.map #[] c)) (hmg : m ≠ g) (hv : Rows 3 34 PC w v l) (h1 : 1 ≤ l.length) (h2 : l.length ≤ 64) :
  Calls Tryz.prog 22 #[.pointer (some ⟨g, 0, none⟩), (.string ⟨#[98, 49]⟩), v] w (fun e w' => e = .returned (.int .i64 0) ∧ (∃ a n c z d d', w'.heap[m]? = some (.map #[⟨(.string ⟨#[98, 49]⟩), .agg #[.slice a n c, .bool z], d⟩] d')) ∧ Bx w' g 98 #[.map (some m), x2, x3] ∧ ∀ B, B ≤ w.heap.size → B ≤ m → Below B w w') := by
 obtain ⟨ba, oa, ca, rfl, ha1, ha2, -⟩ := hv.open_ (by omega)
 have hs := Below.refl w.heap.size w
 go_enter Tryz.func22, Tryz.ntmps22
 go_wp2_with fail
 refine (al_isName_b1 w).mono ?_
 rintro e w1 ⟨rfl, hbb⟩
 replace hs := bStep hs hbb
 replace hm := (hbb.block m (lt_of_block hm)).trans hm
 replace hB := hB.mono hbb
 replace hv := hv.mono PC.kept hbb
 clear hbb
 have c0 := hB.at 0 rfl
 have hl := map_look0 hm
 go_wp2_with fail
 refine Calls.abs ?_
 intro w2 hW
 have hbb : Below w1.heap.size w1 w2 := by rw [hW]; exact (Below.refl _ _).alloc (Nat.le_refl _) _
 replace hs := bStep hs hbb
 replace hm := (hbb.block m (lt_of_block hm)).trans hm
 replace hB := hB.mono hbb
 replace hv := hv.mono PC.kept hbb
 clear hbb hW c0 hl
 refine (al_checkValues w2 hv h1 h2).mono ?_
 rintro e w3 ⟨rfl, hbb⟩
 replace hs := bStep hs hbb
 replace hm := (hbb.block m (lt_of_block hm)).trans hm
 replace hB := hB.mono hbb
 replace hv := hv.mono PC.kept hbb
 clear hbb
 have c0 := hB.at 0 rfl
 have hln := map_len0 hm
 go_upto_region 13 with fail
 clear c0 hln
 refine U_region (S := fun w' => w'.cell? ⟨g, 0, none⟩ = some (.map (some m))) (by kernel_rfl) 9 ?_
 refine AnyU.abs ?_
 intro w4 hW
 have hbb : Below w3.heap.size w3 w4 := by rw [hW]; exact bDrew _
 replace hs := bStep hs hbb
 replace hm := (hbb.block m (lt_of_block hm)).trans hm
 replace hB := hB.mono hbb
 replace hv := hv.mono PC.kept hbb
 clear hbb hW
 have c0 := hB.at 0 rfl
 have hH := (show w4.cell? ⟨g, 0, none⟩ = some (.map (some m)) from c0)
 refine U_takeN (i := 0) (d := 36) (v := ?_) rfl rfl rfl (by kernel_rfl) (by kernel_rfl) (by kernel_rfl) (fun _ _ _ h => h) (Or.inl ⟨by rfl, ?_⟩) hH ?_
 rotate_left
 ·intro w hSw
  try dsimp only at hSw
  go_simp
  try with_reducible rfl
 simp only [LY]
 refine U_takeN (i := 1) (d := 37) (v := ?_) rfl rfl rfl (by kernel_rfl) (by kernel_rfl) (by kernel_rfl) (fun _ _ _ h => h) (Or.inl ⟨by rfl, ?_⟩) hH ?_
 rotate_left
 ·intro w hSw
  try dsimp only at hSw
  go_simp
  try with_reducible rfl
 simp only [LY]
 refine U_takeN (i := 2) (d := 38) (v := ?_) rfl rfl rfl (by kernel_rfl) (by kernel_rfl) (by kernel_rfl) (fun _ _ _ h => h) (Or.inl ⟨by rfl, ?_⟩) hH ?_
 rotate_left
 ·intro w hSw
  try dsimp only at hSw
  go_simp
  try with_reducible rfl
 simp only [LY]
 refine U_takeN (i := 3) (d := 39) (v := ?_) rfl rfl rfl (by kernel_rfl) (by kernel_rfl) (by kernel_rfl) (fun _ _ _ h => h) (Or.inl ⟨by rfl, ?_⟩) hH ?_
 rotate_left
 ·intro w hSw
  try dsimp only at hSw
  go_simp
  try with_reducible rfl
 simp only [LY]
 refine U_takeN (i := 4) (d := 40) (v := ?_) rfl rfl rfl (by kernel_rfl) (by kernel_rfl) (by kernel_rfl) (fun _ _ _ h => h) (Or.inl ⟨by rfl, ?_⟩) hH ?_
 rotate_left
 ·intro w hSw
  try dsimp only at hSw
  go_simp
  try with_reducible rfl
 simp only [LY]
 refine U_takeN (i := 5) (d := 41) (v := ?_) rfl rfl rfl (by kernel_rfl) (by kernel_rfl) (by kernel_rfl) (fun _ _ _ h => h) (Or.inl ⟨by rfl, ?_⟩) hH ?_
 rotate_left
 ·intro w hSw
  try dsimp only at hSw
  go_simp
  try with_reducible rfl
 simp only [LY]
 clear hH
 refine U_one (i := 6) (by kernel_rfl) rfl (fun K hK => ?_)
 go_simp
 (with_reducible refine (al_Clone w4 hv h1 h2).mono ?_)
 rintro e w5 ⟨vc, rfl, hc, hbb⟩
 obtain ⟨bc, oc, cc, rfl, -, -, -⟩ := hc.open_ (by omega)
 replace hs := bStep hs hbb
 replace hm := (hbb.block m (lt_of_block hm)).trans hm
 replace hB := hB.mono hbb
 clear hbb hc hv c0
 have c0 := hB.at 0 rfl
 try go_wp2_with fail
 refine hK.out _ _ c0 (fun hH => ?_)
 clear hK K
 try simp only [LY]
 refine U_takeN (i := 7) (d := 43) (v := ?_) rfl rfl rfl (by kernel_rfl) (by kernel_rfl) (by kernel_rfl) (fun _ _ _ h => h) (Or.inl ⟨by rfl, ?_⟩) hH ?_
 rotate_left
 ·intro w hSw
  try dsimp only at hSw
  go_simp
  try with_reducible rfl
 simp only [LY]
 clear hH
 refine U_one (i := 8) (by kernel_rfl) rfl (fun K hK => ?_)
 go_simp
 obtain ⟨w6, hu, hm6, hG⟩ := map_new hm (.agg #[.slice (some ⟨bc, oc, none⟩) l.length cc, .bool false])
 rw [hu]
 go_simp
 have hB6 := hG.bx hB (notMem1 (fun e => hmg e.symm))
 have c6 := hB6.at 0 rfl
 refine hK.out _ _ c6 (fun hH => ?_)
 clear hK K hu
 try simp only [LY]
 clear hH
 refine U_endN (by kernel_rfl) ?_
 clear c6 c0
 go_wp2
 go_ret
 exact ⟨rfl, ⟨_, _, _, _, _, _, hm6⟩, hB6, fun B hb1 hb2 => (Below.trans (⟨hs.os, hs.tape, hs.output, hs.size, fun k hk => hs.block k (by omega)⟩ : Below B w w5) (hG.below1 (Nat.le_trans hb1 hs.size) hb2))⟩
end Go.Proofs.YtlmemilmhdhgbaaGreat
namespace Go.Proofs.YtlmemilmhdhgbaaGreat
open Go.RowKit Dg
attribute [local go_sem ↓] Go.wp_at_zero Go.wp_at_succ
theorem l1_Of_le (n d : Int) (w : World) (h0 : -9223372036854775808 ≤ n) (h1 : n ≤ 9223372036854775807) (d0 : -9223372036854775808 ≤ d) (d1 : d ≤ 9223372036854775807) (hd : d ≤ 0) : Calls Tryz.prog 8 #[.agg #[.int .i64 n, .int .i64 d]] w (RetP w ((n : Rat))) := by
 have hs := Below.refl w.heap.size w
 go_enter Tryz.func8, Tryz.ntmps8
 have q1 : d ≤ 0 := (by omega)
 have q1d : (d ≤ 0) = True := eq_true (by omega)
 go_wp2_with fail
 refine Calls.abs ?_
 intro w1 hW
 have hG : Gr [] w w1 := by rw [hW]; exact (Gr.refl _ _).alloc.alloc
 have hbw : Below w.heap.size w w1 := hG.below0 hs.size
 have hk : KeepD w w1 := hG.keep True.intro
 have sz_w1 : w.heap.size ≤ w.heap.size := hs.size
 have Blx : Bx w1 (w.heap.size) 24 #[.int .i64 n, .int .i64 d] := by rw [hW]; exact ((Bx.new0 _ _ _).alloc _)
 have Blk : Bx w1 (w.heap.size + 1) 34 #[.bool false, .slice none 0 0, .slice none 0 0] := by rw [hW]; exact (Bx.new0 _ _ _)
 replace hs := hs.trans hbw
 clear hW hG hk hbw
 have hz_w1 : w.heap.size + 1 < w1.heap.size := Blk.lt
 with_reducible refine (p_Int_calls n _ h0 h1).mono ?_
 rintro e w2 ⟨_, rfl, h2, hb⟩
 obtain ⟨sh2, ah2, nh2, ch2, Ah2, Nh2, Ch2, rfl⟩ := h2.shape
 replace hs := bStep hs hb
 replace Blx := Blx.mono hb
 replace Blk := Blk.mono hb
 clear hb
 have B0 : w2.cell? ⟨w.heap.size + 1, 0, none⟩ = some (.bool false) := Blk.at 0 rfl
 have B1 : w2.cell? ⟨w.heap.size + 1, 1, none⟩ = some (.slice none 0 0) := Blk.at 1 rfl
 have B2 : w2.cell? ⟨w.heap.size + 1, 2, none⟩ = some (.slice none 0 0) := Blk.at 2 rfl
 have fk := Blk.free
 have Lk : w.heap.size + 1 < w2.heap.size := Blk.lt
 go_wp2
 clear B0 B1 B2 fk Lk
 refine bodyPost.abs ?_
 intro w3 hW
 have hG : Gr [w.heap.size + 1] w2 w3 := by rw [hW]; exact (Gr.refl _ _).set.set.set
 have hsz := hs.size
 have lk := Blk.lt
 have hbw : Below w.heap.size w2 w3 := hG.below1 hs.size (by first | omega | assumption)
 have hk : KeepD w2 w3 := hG.keep ⟨⟨_, Blk.ty, by decide⟩, True.intro⟩
 have Bl1k : Bx w3 (w.heap.size + 1) 34 #[.bool sh2, .slice ah2 nh2 ch2, .slice Ah2 Nh2 Ch2] := by rw [hW]; exact Blk.set3
 replace hs := hs.trans hbw
 replace Blx := hG.bx Blx (notMem1 (by omega))
 replace Blk := Bl1k
 clear Bl1k
 replace h2 := h2.keep hk
 clear hW hG hk hbw hsz lk
 have B0 : w3.cell? ⟨w.heap.size + 1, 0, none⟩ = some (.bool sh2) := Blk.at 0 rfl
 have B1 : w3.cell? ⟨w.heap.size + 1, 1, none⟩ = some (.slice ah2 nh2 ch2) := Blk.at 1 rfl
 have B2 : w3.cell? ⟨w.heap.size + 1, 2, none⟩ = some (.slice Ah2 Nh2 Ch2) := Blk.at 2 rfl
 exact bodyPost_ret (v := .agg #[.bool sh2, .slice ah2 nh2 ch2, .slice Ah2 Nh2 Ch2]) (by simp [results, Tryz.results8, go_sem, B0, B1, B2]) rfl ⟨_, rfl, h2, hs⟩
theorem l1_Of_gt (n d : Int) (w : World) (h0 : -9223372036854775808 ≤ n) (h1 : n ≤ 9223372036854775807) (d0 : -9223372036854775808 ≤ d) (d1 : d ≤ 9223372036854775807) (hd : ¬ d ≤ 0) : Calls Tryz.prog 8 #[.agg #[.int .i64 n, .int .i64 d]] w (RetP w ((n : Rat) / (d : Rat))) := by
 have hs := Below.refl w.heap.size w
 go_enter Tryz.func8, Tryz.ntmps8
 have q1 : ¬ (d ≤ 0) := (by omega)
 have q1d : (d ≤ 0) = False := eq_false (by omega)
 go_wp2_with fail
 refine Calls.abs ?_
 intro w1 hW
 have hG : Gr [] w w1 := by rw [hW]; exact (Gr.refl _ _).alloc.alloc
 have hbw : Below w.heap.size w w1 := hG.below0 hs.size
 have hk : KeepD w w1 := hG.keep True.intro
 have sz_w1 : w.heap.size ≤ w.heap.size := hs.size
 have Blx : Bx w1 (w.heap.size) 24 #[.int .i64 n, .int .i64 d] := by rw [hW]; exact ((Bx.new0 _ _ _).alloc _)
 have Blk : Bx w1 (w.heap.size + 1) 34 #[.bool false, .slice none 0 0, .slice none 0 0] := by rw [hW]; exact (Bx.new0 _ _ _)
 replace hs := hs.trans hbw
 clear hW hG hk hbw
 have hz_w1 : w.heap.size + 1 < w1.heap.size := Blk.lt
 with_reducible refine (p_New_calls n d _ h0 h1 (by omega) d1 (by omega)).mono ?_
 rintro e w2 ⟨_, rfl, h2, hb⟩
 obtain ⟨sh2, ah2, nh2, ch2, Ah2, Nh2, Ch2, rfl⟩ := h2.shape
 replace hs := bStep hs hb
 replace Blx := Blx.mono hb
 replace Blk := Blk.mono hb
 clear hb
 go_upto_region 4 with fail
 refine Code.abs ?_
 intro w3 hW
 have hG : Gr [] w2 w3 := by rw [hW]; exact (Gr.refl _ _).alloc
 have hbw : Below w.heap.size w2 w3 := hG.below0 hs.size
 have hk : KeepD w2 w3 := hG.keep True.intro
 have sz_w3 : w.heap.size ≤ w2.heap.size := hs.size
 have nx_w3 : w.heap.size < w2.heap.size := Blx.lt
 have nk_w3 : w.heap.size + 1 < w2.heap.size := Blk.lt
 have Bly : Bx w3 (w2.heap.size) 34 #[.bool sh2, .slice ah2 nh2 ch2, .slice Ah2 Nh2 Ch2] := by rw [hW]; exact (Bx.new0 _ _ _)
 replace hs := hs.trans hbw
 replace Blx := hG.bx Blx notMem0
 replace Blk := hG.bx Blk notMem0
 replace h2 := h2.keep hk
 clear hW hG hk hbw
 have hz_w3 : w2.heap.size < w3.heap.size := Bly.lt
 have B3 : w3.cell? ⟨w2.heap.size, 0, none⟩ = some (.bool sh2) := Bly.at 0 rfl
 have B4 : w3.cell? ⟨w2.heap.size, 1, none⟩ = some (.slice ah2 nh2 ch2) := Bly.at 1 rfl
 have B5 : w3.cell? ⟨w2.heap.size, 2, none⟩ = some (.slice Ah2 Nh2 Ch2) := Bly.at 2 rfl
 have Ly : w2.heap.size < w3.heap.size := Bly.lt
 have B0 : w3.cell? ⟨w.heap.size + 1, 0, none⟩ = some (.bool false) := Blk.at 0 rfl
 have B1 : w3.cell? ⟨w.heap.size + 1, 1, none⟩ = some (.slice none 0 0) := Blk.at 1 rfl
 have B2 : w3.cell? ⟨w.heap.size + 1, 2, none⟩ = some (.slice none 0 0) := Blk.at 2 rfl
 have fk := Blk.free
 have Lk : w.heap.size + 1 < w3.heap.size := Blk.lt
 go_wp2
 clear B3 B4 B5 B0 B1 B2 fk Ly Lk
 refine bodyPost.abs ?_
 intro w4 hW
 have hG : Gr [w.heap.size + 1] w3 w4 := by rw [hW]; exact (Gr.refl _ _).set.set.set
 have hsz := hs.size
 have lk := Blk.lt
 have hbw : Below w.heap.size w3 w4 := hG.below1 hs.size (by first | omega | assumption)
 have hk : KeepD w3 w4 := hG.keep ⟨⟨_, Blk.ty, by decide⟩, True.intro⟩
 have Bl1k : Bx w4 (w.heap.size + 1) 34 #[.bool sh2, .slice ah2 nh2 ch2, .slice Ah2 Nh2 Ch2] := by rw [hW]; exact Blk.set3
 replace hs := hs.trans hbw
 replace Blx := hG.bx Blx (notMem1 (by omega))
 replace Bly := hG.bx Bly (notMem1 (by omega))
 replace Blk := Bl1k
 clear Bl1k
 replace h2 := h2.keep hk
 clear hW hG hk hbw hsz lk
 have B0 : w4.cell? ⟨w.heap.size + 1, 0, none⟩ = some (.bool sh2) := Blk.at 0 rfl
 have B1 : w4.cell? ⟨w.heap.size + 1, 1, none⟩ = some (.slice ah2 nh2 ch2) := Blk.at 1 rfl
 have B2 : w4.cell? ⟨w.heap.size + 1, 2, none⟩ = some (.slice Ah2 Nh2 Ch2) := Blk.at 2 rfl
 exact bodyPost_ret (v := .agg #[.bool sh2, .slice ah2 nh2 ch2, .slice Ah2 Nh2 Ch2]) (by simp [results, Tryz.results8, go_sem, B0, B1, B2]) rfl ⟨_, rfl, h2, hs⟩
theorem l1_Of {n d : Int} {q : Rat} (w : World) (h0 : -9223372036854775808 ≤ n) (h1 : n ≤ 9223372036854775807) (d0 : -9223372036854775808 ≤ d) (d1 : d ≤ 9223372036854775807) (hq : fracQ n d = q) : Calls Tryz.prog 8 #[.agg #[.int .i64 n, .int .i64 d]] w (RetP w q) := by
 by_cases hd : d ≤ 0
 ·rw [← hq, show fracQ n d = (n : Rat) from if_pos hd]; exact l1_Of_le n d w h0 h1 d0 d1 hd
 ·rw [← hq, show fracQ n d = (n : Rat) / (d : Rat) from if_neg hd]; exact l1_Of_gt n d w h0 h1 d0 d1 hd
end Go.Proofs.YtlmemilmhdhgbaaGreat
