/-
  strings.Builder at this dump: copyCheck (a part of its text is refused by the loader here, so that the shelf's contract does not lie) and WriteString; turned from the shelf's own proofs.
-/
import Derived.Test.YtbnomdlojmgigaaGreatShelf
import Derived.Test.YtbnomdlojmgigaaGreatPkW0W
import Derived.Test.YtbnomdlojmgigaaGreatPkW7W
import Derived.Test.YtbnomdlojmgigaaGreatPkW6W
import Derived.Test.YtbnomdlojmgigaaGreatPkW1W
import Derived.Laws.IdiomStrings
import Derived.Deep.RegionHeld3
import Derived.Deep.DeepCutAuto
import Derived.Deep.DrawnRows
set_option linter.unusedSimpArgs false
set_option linter.unusedVariables false
set_option maxHeartbeats 4000000
set_option maxRecDepth 100000
namespace Go.Proofs.YtbnomdlojmgigaaGreat
open Go.RowKit Dg
theorem b_size:(Tryz.prog.info? 138).map (fun i=>i.size)=some 2:=by kernel_rfl
theorem b_lies:liesAt Tryz.prog Tryz.prog.depth 138 (2 / Tryz.prog.cellsOf 138) 0 138 1=true:=by kernel_rfl
theorem b_byte:(Tryz.prog.info? 5).map (fun i=>(i.zero,i.size,i.bytes))=some (some (.int .u8 0),1,1):=by kernel_rfl
theorem jc3 (b:Nat) (w:World) (h0:w.cell? ⟨b,0,none⟩=some (.pointer (some ⟨b,0,none⟩))):
  Calls Tryz.prog 143 #[.pointer (some ⟨b,0,none⟩)] w fun e w'=>e=.returned (.tuple #[])∧w'=w:=by
 obtain⟨j,hj,_⟩:=Option.map_eq_some_iff.1 b_size
 go_enter Tryz.func143,Tryz.ntmps143
 go_wp2
 rw[Lib.run_neq_ptr_same w _ Tryz.underlying135 hj]
 go_wp2
 go_end0
 exact⟨rfl,rfl⟩
theorem zr (b:Nat) (w:World) (h0:w.cell? ⟨b,0,none⟩=some (.pointer none)) (hsh:w.shape? b=some (138,2)) (hfz:w.frozen? ⟨b,0,none⟩=false):
  Calls Tryz.prog 143 #[.pointer (some ⟨b,0,none⟩)] w fun e w'=>e=.returned (.tuple #[])∧w'=w.setCell ⟨b,0,none⟩ (.pointer (some ⟨b,0,none⟩)):=by
 obtain⟨j,hj,hjs⟩:=Option.map_eq_some_iff.1 b_size
 go_enter Tryz.func143,Tryz.ntmps143
 go_wp2
 rw[Lib.run_to_unsafe w ⟨b,0,none⟩ Tryz.underlying135 Tryz.underlying197 hj (by rw[hjs];decide) hsh (Nat.zero_lt_succ 1)]
 simp only[Result.andThen]
 rw[Oper.upon_value]
 go_wp2
 rw[run_callFunc_extern Tryz.func163 (by kernel_rfl) (by kernel_rfl) (by kernel_rfl) (e:=Extern.AbiNoEscape.same) (by kernel_rfl)]
 rw[Lib.run_noEscape]
 simp only[Result.andThen]
 rw[Oper.upon_value]
 go_wp2
 rw[Lib.run_from_unsafe w ⟨b,0,none⟩ Tryz.underlying197 Tryz.underlying135 hj hsh b_lies]
 simp only[Result.andThen]
 rw[Oper.upon_value]
 go_wp2
 go_end0
 exact⟨rfl,rfl⟩
theorem copyCheck (B b:Nat) (bs:List Value) (w:World) (h:Lib.IsBuilder 138 5 B b bs w):
  Calls Tryz.prog 143 #[.pointer (some ⟨b,0,none⟩)] w fun e w'=>e=.returned (.tuple #[])∧(Lib.BuilderAt 138 5 B b (.pointer (some ⟨b,0,none⟩)) bs w'∧Below B w w'):=by
 rcases h with h|h
 ·refine (zr b w h.cell0 h.shape h.frozen0).mono ?_
  rintro e w' ⟨rfl,rfl⟩
  exact⟨rfl,h.used _,(Below.refl B w).setCell (p:=⟨b,0,none⟩) h.1 _⟩
 ·refine (jc3 b w h.cell0).mono ?_
  rintro e w' ⟨rfl,rfl⟩
  exact⟨rfl,h,Below.refl B _⟩
theorem writeString (B b:Nat) (bs:List Value) (s:ByteArray) (w:World) (h:Lib.IsBuilder 138 5 B b bs w) (hlen:bs.length + s.size≤140737488355328) (hBw:B≤w.heap.size):
  Calls Tryz.prog 110 #[.pointer (some ⟨b,0,none⟩),.string s] w fun e w'=>e=.returned (.tuple #[.int .i64 s.size,.nilIface])∧(Lib.BuilderAt 138 5 B b (.pointer (some ⟨b,0,none⟩)) (bs ++ Lib.strCells s) w'∧Below B w w'):=by
 obtain⟨i0,hi,hz0,hz1,hz2⟩:=info_parts b_byte
 go_enter Tryz.func110,Tryz.ntmps110
 go_wp2_with fail
 refine (copyCheck B b bs _ h).mono ?_
 rintro e w1 ⟨rfl,h1,hb1⟩
 obtain⟨hB,v,hbk,hown,hne⟩:=h1
 have c0:w1.cell? ⟨b,0,none⟩=some (.pointer (some ⟨b,0,none⟩)):=by rw[Lib.cell_of_heap hbk];rfl
 have c1:w1.cell? ⟨b,1,none⟩=some v:=by rw[Lib.cell_of_heap hbk];rfl
 go_wp2_with (at_builtin;refine Lib.wpList_append_own_string _ rfl _ _ 136 9 rfl B 5 i0 Tryz.underlying136 Tryz.underlying9 hi hz0 hz1 hz2 _ _ _ rfl hown s rfl ?c3 ?c4 ?c5 ?_)
 case c3=>unfold maxLen;omega
 case c4=>omega
 case c5=>have:=hb1.size;omega
 intro v' w2 hown' hgrow _
 have hlt:b < w1.heap.size:=by
  rcases Nat.lt_or_ge b w1.heap.size with h'|h'
  ·exact h'
  ·simp[Array.getElem?_eq_none h'] at hbk
 have hb2:w2.heap[b]?=some (.cells #[.pointer (some ⟨b,0,none⟩),v] 138 (0,0)):=by
  rw[hgrow.block b hlt (fun e=>hne e.symm)]
  exact hbk
 have d0:w2.cell? ⟨b,0,none⟩=some (.pointer (some ⟨b,0,none⟩)):=by rw[Lib.cell_of_heap hb2];rfl
 have d1:w2.cell? ⟨b,1,none⟩=some v:=by rw[Lib.cell_of_heap hb2];rfl
 have f1:w2.frozen? ⟨b,1,none⟩=false:=Lib.frozen_of_heap hb2 1
 obtain⟨ao,n',cap,rfl⟩:∃ao n' cap,v'=.slice ao n' cap:=by
  rcases hown'.2 with ⟨hv,_⟩|⟨g,cap,cur,hv,_⟩
  ·exact⟨_,_,_,hv⟩
  ·exact⟨_,_,_,hv⟩
 go_wp2
 go_ret2
 refine⟨rfl,?_,?_⟩
 ·exact Lib.BuilderAt.put (T:=138) (e:=5) hB hb2 (bs':=bs ++ Lib.strCells s) (by simpa [Lib.strCells_length] using hown') (by decide)
 ·exact (hb1.grown hgrow (by have:=hb1.size;omega) (fun k hk=>(hown.lt k hk).1)).setCell (p:=⟨b,1,none⟩) hB _
end Go.Proofs.YtbnomdlojmgigaaGreat
namespace Go.Proofs.YtbnomdlojmgigaaGreat
open Go.RowKit Dg
theorem dgs_len (k : Nat) : ∀ n, n < 10 ^ k → (dgs n).length ≤ k := by
  induction k with
  | zero => intro n h; have : n = 0 := by simpa using h
            subst this; rw [gj]; exact Nat.le_refl _
  | succ k ih =>
    intro n h
    by_cases h0 : n = 0
    · subst h0; rw [gj]; exact Nat.zero_le _
    · rw [jc h0, List.length_append, List.length_singleton]
      have := ih (n / 10) (by rw [Nat.pow_succ] at h; omega)
      omega
theorem pad_zeros : ∀ (k n : Nat), n < 10 ^ k → pad k n = List.replicate (k - (dgs n).length) 48 ++ dgs n
  | 0, n, h => by
    have : n = 0 := by simpa using h
    subst this; rw [gj]; rfl
  | k + 1, n, h => by
    rw [pad, pad_zeros k (n / 10) (by rw [Nat.pow_succ] at h; omega)]
    by_cases h0 : n = 0
    · subst h0
      rw [show (0 : Nat) / 10 = 0 from rfl, gj, List.append_nil, List.append_nil]
      simp only [List.length_nil, Nat.sub_zero, Nat.zero_mod, Nat.add_zero]
      rw [List.replicate_succ']
      rfl
    · rw [jc h0, List.length_append, List.length_singleton, List.append_assoc]
      congr 2
      omega
theorem byte_digit (n : Nat) : (UInt8.ofNat (48 + n % 10)).toNat = 48 + n % 10 := by
  have : n % 10 < 10 := Nat.mod_lt _ (by omega)
  simp
  omega
def RetS (w : World) (l : List UInt8) (e : Ending) (w' : World) : Prop := e = .returned (.string ⟨l.toArray⟩) ∧ Below w.heap.size w w'
theorem zs (n : Nat) (w : World) (hn : n < 18446744073709551616) : Calls Tryz.prog 108 #[.int .u64 n] w (RetS w (dgs n)) := by
  have hlen := dgs_len 20 n (by omega)
  generalize hD : dgs n = D at *
  have HD := Lib.hid hD; clear hD
  have hb0 : Blk .u8 172 (w.alloc (.cells (U .u8 (List.replicate 20 0)) 172)) w.heap.size (List.replicate 20 0) := Blk.new .u8 _ w _
  have HB0 := Lib.hid hb0; clear hb0
  go_enter Tryz.func108, Tryz.ntmps108
  go_wp2
  go_loopw [0, 4] (fun nv av wr => ∃ (m k : Nat) (L : List Nat) (t : List UInt8), nv = .int .u64 m ∧ av = .int .i64 k ∧ k ≤ 20 ∧ m < 18446744073709551616 ∧ Blk .u8 172 wr w.heap.size L ∧ L.length = 20 ∧ L.drop k = t.map UInt8.toNat ∧ dgs m ++ t = D ∧ (dgs m).length ≤ k ∧ Below w.heap.size w wr) (fun nv _ _ => (intOf nv).toNat)
  case atStart => exact ⟨n, 20, _, [], rfl, rfl, Nat.le_refl _, hn, HB0.out, by simp, by simp, by rw [List.append_nil]; exact HD.out, by rw [HD.out]; exact hlen, (Below.refl _ _).alloc (Nat.le_refl _) _⟩
  case round =>
    obtain ⟨m, k, L, t, rfl, rfl, hk, hm, hblk, hL, hdrop, hdg, hlk, hbel⟩ := hrel
    have HB := Lib.hid hblk
    have HL := Lib.hid hL
    have HDR := Lib.hid hdrop
    have HDG := Lib.hid hdg
    have HLK := Lib.hid hlk
    have HBE := Lib.hid hbel
    clear hblk hL hdrop hdg hlk hbel HB0 hlen
    by_cases h0 : m = 0
    · subst h0
      have htl : t.length = 20 - k := by
        have := congrArg List.length HDR.out
        rw [List.length_drop, HL.out, List.length_map] at this
        omega
      have hconv := run_convert_bytes_back (P := Tryz.prog) wr 136 9 5 ⟨w.heap.size, k, none⟩ (20 - k) t Tryz.underlying136 Tryz.underlying5 Tryz.underlying9 (by
        intro j hj
        rw [iy, HB.out.cell (by rw [HL.out]; omega)]
        have h1 : (L.drop k)[j]?.getD 0 = t[j].toNat := by rw [HDR.out]; simp [List.getElem?_eq_getElem hj]
        rw [List.getElem?_drop] at h1
        rw [h1])
      rw [htl] at hconv
      have HTL := Lib.hid htl
      clear htl
      by_cases hk20 : k = 20
      · subst hk20
        have hc0 := run_convert_bytes_back (P := Tryz.prog) wr 136 9 5 ⟨w.heap.size, 0, none⟩ 0 [] Tryz.underlying136 Tryz.underlying5 Tryz.underlying9 (by intro j hj; simp at hj)
        rw [List.length_nil] at hc0
        clear hconv
        go_wp2
        go_ret
        refine ⟨?_, HBE.out⟩
        have h1 := HTL.out
        obtain rfl : t = [] := List.length_eq_zero_iff.1 (by omega)
        have h2 := HDG.out
        rw [gj] at h2
        rw [← h2]
        rfl
      · have hbd : (k : Int) ≤ 20 := by omega
        have hk20' : ¬ 20 = k := by omega
        go_wp2
        go_ret
        refine ⟨?_, HBE.out⟩
        have h2 := HDG.out
        rw [gj, List.nil_append] at h2
        rw [← h2]
        rfl
    · have hpos : 0 < (m : Int) := by omega
      have hk1 : 1 ≤ k := by
        have := HLK.out
        rw [jc h0, List.length_append, List.length_singleton] at this
        omega
      have hcell := HB.out.cell (j := k - 1) (by rw [HL.out]; omega)
      have hfree := HB.out.free (k - 1)
      have hset := HB.out.set (k - 1) (48 + m % 10)
      have HSET := Lib.hid hset
      clear hset
      have hbd : (k : Int) - 1 < 20 := by omega
      go_wp2
      go_roundw
      case rel =>
        refine ⟨m / 10, k - 1, L.set (k - 1) (48 + m % 10), UInt8.ofNat (48 + m % 10) :: t, by simp, by congr 1; omega, by omega, by omega, ?_, by rw [List.length_set]; exact HL.out, ?_, ?_, ?_, HBE.out.setCell (Nat.le_refl _) _⟩
        · have := HSET.out
          simpa using this
        · have e : L.drop k = (L.set (k - 1) (48 + m % 10)).drop k := (yz (by omega)).symm
          rw [List.drop_eq_getElem_cons (by rw [List.length_set, HL.out]; omega), show k - 1 + 1 = k from by omega, ← e, HDR.out, List.getElem_set_self, List.map_cons, byte_digit]
        · have := HDG.out
          rw [jc h0, List.append_assoc] at this
          exact this
        · have := HLK.out
          rw [jc h0, List.length_append, List.length_singleton] at this
          omega
      all_goals first | (simp [intOf]; done) | (simp [intOf]; omega)
end Go.Proofs.YtbnomdlojmgigaaGreat
namespace Go.Proofs.YtbnomdlojmgigaaGreat
open Go.RowKit Dg
theorem zeros_cut : ∀ k : Nat, k < 20 → (ByteArray.mk #[48, 48, 48, 48, 48, 48, 48, 48, 48, 48, 48, 48, 48, 48, 48, 48, 48, 48, 48, 48, 48, 48, 48, 48, 48, 48, 48, 48, 48, 48, 48, 48, 48, 48, 48, 48, 48, 48, 48, 48, 48, 48, 48, 48, 48, 48, 48, 48, 48, 48, 48, 48, 48, 48, 48, 48, 48, 48, 48, 48, 48, 48, 48, 48]).extract 0 k = ⟨(List.replicate k 48).toArray⟩ := by decide
theorem hp_ne (s : ByteArray) (w : World) (h : s.data.toList.head? = some 48 → False) : Calls Tryz.prog 140 #[.string s, .string ⟨#[48]⟩] w fun e w' => e = .returned (.bool false) ∧ w = w' := by
  refine (Tryz.strings_HasPrefix s ⟨#[48]⟩ w).mono ?_
  rintro e w' ⟨rfl, rfl⟩
  refine ⟨?_, rfl⟩
  have : Lib.hasPrefix s.data.toList [48] = false := by
    cases hs : s.data.toList with
    | nil => rfl
    | cons c r => rw [hs] at h; show (48 == c && List.isPrefixOf [] r) = false; rw [beq_eq_false_iff_ne.2 (fun e => h (by rw [← e]; rfl))]; rfl
  rw [this]
theorem hp_eq (s : ByteArray) (w : World) (h : s.data.toList.head? = some 48) : Calls Tryz.prog 140 #[.string s, .string ⟨#[48]⟩] w fun e w' => e = .returned (.bool true) ∧ w = w' := by
  refine (Tryz.strings_HasPrefix s ⟨#[48]⟩ w).mono ?_
  rintro e w' ⟨rfl, rfl⟩
  refine ⟨?_, rfl⟩
  have : Lib.hasPrefix s.data.toList [48] = true := by
    cases hs : s.data.toList with
    | nil => rw [hs] at h; cases h
    | cons c r => rw [hs] at h; have e : c = 48 := by simpa using h
                  rw [e]; rfl
  rw [this]
theorem repeat0 (k : Nat) (hk : k ≤ 19) (w : World) : Calls Tryz.prog 109 #[.string ⟨#[48]⟩, .int .i64 k] w fun e w' => e = .returned (.string ⟨(List.replicate k 48).toArray⟩) ∧ w' = w := by
  by_cases h0 : k = 0
  · subst h0
    go_enter Tryz.func109, Tryz.ntmps109
    go_wp2
    go_ret
    exact ⟨rfl, rfl⟩
  · by_cases h1 : k = 1
    · subst h1
      go_enter Tryz.func109, Tryz.ntmps109
      go_wp2
      go_ret
      exact ⟨rfl, rfl⟩
    · have h0' : ((k : Int) == 0) = false := by rw [beq_eq_false_iff_ne]; omega
      have h1' : ((k : Int) == 1) = false := by rw [beq_eq_false_iff_ne]; omega
      have hcut := zeros_cut k (by omega)
      generalize hR : (⟨(List.replicate k 48).toArray⟩ : ByteArray) = R at *
      clear h0 h1
      go_enter Tryz.func109, Tryz.ntmps109
      go_wp2_with fail
      have hmul := Tryz.bits_Mul 1 k (by omega) (by omega) w
      rw [show 1 * k / 18446744073709551616 = 0 from by omega, show 1 * k % 18446744073709551616 = k from by omega] at hmul
      refine hmul.mono ?_
      clear hmul
      rintro e w' ⟨rfl, rfl⟩
      have hb : (k : Int) ≤ 19 := by omega
      have hb' : (k : Int) ≤ 9223372036854775807 := by omega
      go_wp2_with fail
      refine (hp_ne _ _ (by decide)).mono ?_
      rintro e w' ⟨rfl, rfl⟩
      go_wp2_with fail
      refine (hp_ne _ _ (by decide)).mono ?_
      rintro e w' ⟨rfl, rfl⟩
      go_wp2_with fail
      refine (hp_eq _ _ (by decide)).mono ?_
      rintro e w' ⟨rfl, rfl⟩
      go_wp2
      go_ret
      exact ⟨rfl, rfl⟩
end Go.Proofs.YtbnomdlojmgigaaGreat
namespace Go.Proofs.YtbnomdlojmgigaaGreat
open Go.RowKit Dg
def ib (l:List UInt8):Value:=.string ⟨l.toArray⟩
theorem je6 (ao:Option Addr) (n c:Nat) (l:List Nat) (w:World) (hs:Sl .u32 w ao n c l) (hd:bi 4294967296 l) (hn:n≤536870912):
  Calls Tryz.prog 88 #[.slice ao n c] w fun e w'=>e=.returned (ib (dw (val 4294967296 l)))∧Below w.heap.size w w':=by
 by_cases h0:n=0
 ·subst h0
  have:l=[]:=List.length_eq_zero_iff.1 hs.len
  subst this
  go_enter Tryz.func88,Tryz.ntmps88
  go_wp2
  go_ret
  exact⟨rfl,Below.refl _ _⟩
 ·have hpos:0 < val 4294967296 l:=hd.pos (by omega) (by rw[hs.len];omega)
  have hdec:dw (val 4294967296 l)=dgs (val 4294967296 l):=by unfold dw;rw[if_neg (by omega)]
  rw[hdec];clear hdec
  have ha:uw .u32 4294967296 536870912 w (.slice ao n c) (val 4294967296 l):=⟨_,_,_,_,rfl,hs,hd,rfl,hn⟩
  have hlenA:(dgs (val 4294967296 l)).length≤17179869184:=by
   have h1:=qw (val 4294967296 l)
   have h2:=bl_len hd n hs.len
   omega
  generalize val 4294967296 l=A at *
  have HLA:=Lib.hid hlenA
  clear hlenA
  have HA:=Lib.hid ha
  clear ha hs hd
  have h0':((n:Int) == 0)=false:=by rw[beq_eq_false_iff_ne];omega
  go_enter Tryz.func88,Tryz.ntmps88
  go_wp2
  go_loopg [0,3] A (fun k av sv wr=>∃(x:Nat) (sl:List UInt8),x≤k∧uw .u32 4294967296 536870912 wr av x∧sv=.string ⟨sl.toArray⟩∧dgs A=dgs x ++ sl∧Below w.heap.size w wr)
  case atStart=>exact⟨A,[],Nat.le_refl _,HA.out,rfl,by simp,Below.refl _ _⟩
  case round=>
   obtain⟨x,sl,hxk,⟨a1,n1,c1,l1,rfl,hs1,hc1,hv1,hn1⟩,rfl,hdg,hbel⟩:=hrel
   have HS1:=Lib.hid hs1
   have HC1:=Lib.hid hc1
   have HV1:=Lib.hid hv1
   have HDG:=Lib.hid hdg
   have HBE:=Lib.hid hbel
   clear hs1 hc1 hv1 hdg hbel
   by_cases hn0:n1=0
   ·subst hn0
    go_wp2
    go_ret
    have:l1=[]:=List.length_eq_zero_iff.1 HS1.out.len
    have h2:=HV1.out
    rw[this] at h2
    have h3:x=0:=h2.symm
    have h4:=HDG.out
    rw[h3,gj,List.nil_append] at h4
    refine⟨?_,HBE.out⟩
    rw[h4];rfl
   ·have hpos:0 < x:=by have:=HC1.out.pos (by omega) (by rw[HS1.out.len];omega);rw[HV1.out] at this;exact this
    go_wp2_with fail
    refine (rp _ _ _ _ _ _ HS1.out HC1.out.1 (by omega) (by omega) (by omega)).mono ?_
    rintro e w1 ⟨v1,rfl,⟨a2,n2,c2,l2,rfl,hs2,hc2,hv2⟩,hb⟩
    rw[HV1.out,show Int.toNat 1000000000=1000000000 from rfl] at hv2 ⊢
    have hr:=Nat.mod_lt x (show 0 < 1000000000 by omega)
    have hx:=Nat.div_add_mod x 1000000000
    generalize x / 1000000000=q at *
    generalize x % 1000000000=r at *
    have HS2:=Lib.hid hs2
    have HC2:=Lib.hid hc2
    have HV2:=Lib.hid hv2
    have HB2:=Lib.hid hb
    have HX:=Lib.hid hx
    clear hs2 hc2 hv2 hb hx
    go_wp2
    go_loopg [3,5,6] 9 (fun j sv rv kv wr=>∃k:Nat,k + j=9∧kv=.int .i64 k∧rv=.int .u32 ((r / 10 ^ k:Nat):Int)∧sv=.string ⟨(pad k r ++ sl).toArray⟩∧(q=0→dgs r=dgs (r / 10 ^ k) ++ pad k r)∧wr=w1)
    case atStart=>exact⟨0,by omega,rfl,by simp,rfl,by simp[pad],rfl⟩
    case round=>
     obtain⟨k,hk,rfl,rfl,rfl,hqz,rfl⟩:=hrel
     have hrk:r / 10 ^ k≤r:=Nat.div_le_self _ _
     have hrs:r / 10 ^ (k + 1)=r / 10 ^ k / 10:=by rw[Nat.pow_succ,Nat.div_div_eq_div_mul]
     generalize hR:r / 10 ^ k=R at *
     have HR:=Lib.hid hR
     have HRS:=Lib.hid hrs
     have HQZ:=Lib.hid hqz
     clear hR hrs hqz
     have hsl:sl.length≤17179869184:=by
      have h1:=HDG.out
      have h2:=HLA.out
      rw[h1,List.length_append] at h2
      omega
     have hd10:R % 10 < 10:=Nat.mod_lt _ (by omega)
     have hcat:∀W:World,(Op.stringOp .add ((ByteArray.mk #[48,49,50,51,52,53,54,55,56,57]).extract (R % 10) (R % 10 + 1)) ⟨(pad k r ++ sl).toArray⟩).run Tryz.prog W=.ok (.string ⟨(pad (k + 1) r ++ sl).toArray⟩) W:=by
      intro W
      rw[digit_of _ hd10,run_string_add_sum,ja]
      ·rw[tf,HR.out];simp
      ·simp only[ByteArray.size,List.size_toArray,List.length_append,je0,List.length_singleton];omega
     have HNEXT:Hid (q=0→0 < R→dgs r=dgs (r / 10 ^ (k + 1)) ++ pad (k + 1) r):=fun hq0 hR0=>by
      rw[HRS.out,HQZ.out hq0,jc (by omega),tf,HR.out,List.append_assoc];rfl
     clear hsl
     by_cases hgo:k < 9∧(0 < n2∨0 < R)
     ·obtain⟨hk9,hor⟩:=hgo
      rcases Nat.eq_zero_or_pos n2 with hz|hp
      ·have hR0:0 < R:=by omega
       subst hz
       clear hor
       go_wp2
       go_roundg (gk - 1)
       case measure=>omega
       case rel=>exact⟨k + 1,by omega,by go_num,by rw[HRS.out];simp,rfl,fun h=>HNEXT.out h hR0,rfl⟩
      ·clear hor
       have hq0:q≠0:=by
        have:=HC2.out.pos (by omega) (by rw[HS2.out.len];exact hp)
        rw[HV2.out] at this;omega
       have HQ0:=Lib.hid hq0
       clear hq0
       go_wp2
       go_roundg (gk - 1)
       case measure=>omega
       case rel=>exact⟨k + 1,by omega,by go_num,by rw[HRS.out];simp,rfl,fun h=>absurd h HQ0.out,rfl⟩
     ·have hend:dgs x=dgs q ++ pad k r:=by
       rcases Nat.eq_zero_or_pos n2 with hz|hp
       ·have hq0:q=0:=by
         have h1:l2=[]:=List.length_eq_zero_iff.1 (by rw[HS2.out.len];exact hz)
         have h2:=HV2.out
         rw[h1] at h2
         exact h2.symm
        have hx:=HX.out
        rw[hq0] at hx
        have hR0:R=0:=by
         by_cases hk9:k < 9
         ·omega
         ·have hkk:k=9:=by omega
          have:=HR.out
          rw[hkk] at this
          rw[←this]
          exact Nat.div_eq_of_lt hr
        have h3:=HQZ.out hq0
        rw[hR0,gj] at h3
        rw[hq0,gj,←h3,show x=r from by omega]
       ·have hkk:k=9:=by omega
        have hq0:0 < q:=by
         have:=HC2.out.pos (by omega) (by rw[HS2.out.len];exact hp)
         rwa [HV2.out] at this
        rw[hkk,←jc5 9 hq0 hr]
        congr 1
        have:=HX.out
        omega
      have hqx:q < x:=by
       have:=HX.out
       omega
      have hn2:n2≤536870912:=by
       have:=HC2.out.length_le_of (by omega) HC1.out (by rw[HV2.out,HV1.out];omega)
       rw[HS2.out.len,HS1.out.len] at this
       omega
      have HEND:=Lib.hid hend
      clear hend hcat
      rcases Nat.eq_zero_or_pos n2 with hz|hp
      ·have hor:9≤k∨(k < 9∧R=0):=by omega
       subst hz
       rcases hor with h9|⟨h9,h9'⟩
       all_goals
        try subst h9'
        go_wp2
        go_roundg q
        case measure=>omega
        case rel=>exact⟨q,pad k r ++ sl,Nat.le_refl _,⟨_,_,_,_,rfl,HS2.out,HC2.out,HV2.out,hn2⟩,rfl,by rw[HDG.out,HEND.out,List.append_assoc],HBE.out.trans (HB2.out.mono HBE.out.size)⟩
      ·have h9:9≤k:=by omega
       go_wp2
       go_roundg q
       case measure=>omega
       case rel=>exact⟨q,pad k r ++ sl,Nat.le_refl _,⟨_,_,_,_,rfl,HS2.out,HC2.out,HV2.out,hn2⟩,rfl,by rw[HDG.out,HEND.out,List.append_assoc],HBE.out.trans (HB2.out.mono HBE.out.size)⟩
end Go.Proofs.YtbnomdlojmgigaaGreat
namespace Go.Proofs.YtbnomdlojmgigaaGreat
open Go.RowKit Dg
theorem l_byChunk (ao:Option Addr) (n c:Nat) (l:List Nat) (w:World) (hs:Sl .u64 w ao n c l) (hd:cj 18446744073709551616 l) (hn:n≤1099511627776):
  Calls Tryz.prog 107 #[.slice ao n c,.int .u64 10000000000000000000] w (RetNatD .u64 18446744073709551616 w (val 18446744073709551616 l / 10 ^ 19) (val 18446744073709551616 l % 10 ^ 19)):=
 tc ao n c l (10 ^ 19) w hs hd (by decide) (by decide) hn
theorem string_info:(Tryz.prog.info? 9).map (fun i=>(i.zero,i.size,i.bytes))=some (some (.string ⟨#[]⟩),1,16):=by kernel_rfl
theorem dgs_split19 {m:Nat} (hq:0 < m / 10 ^ 19):dgs m=dgs (m / 10 ^ 19) ++ (List.replicate (19 - (dgs (m % 10 ^ 19)).length) 48 ++ dgs (m % 10 ^ 19)):=by
 have h:=dgs_split 19 hq
 rw[h,←pad_mod 19 m,pad_zeros 19 (m % 10 ^ 19) (Nat.mod_lt _ (by decide))]
theorem dgs_one19 {m:Nat} (hq:m / 10 ^ 19=0):dgs (m % 10 ^ 19)=dgs m:=by
 rw[Nat.mod_eq_of_lt]
 rcases Nat.lt_or_ge m (10 ^ 19) with h|h
 ·exact h
 ·have:=Nat.div_pos h (by decide);omega
theorem pow_step {m n m0:Nat} (h:m * 2 ^ n≤m0):m / 10 ^ 19 * 2 ^ (n + 1)≤m0:=by
 have h1:m / 10 ^ 19 * 2≤m:=by
  have:=Nat.div_mul_le_self m (10 ^ 19)
  have h2:m / 10 ^ 19 * 2≤m / 10 ^ 19 * 10 ^ 19:=Nat.mul_le_mul_left _ (by decide)
  omega
 generalize m / 10 ^ 19=q at *
 have h2:q * 2 ^ (n + 1)=q * 2 * 2 ^ n:=by rw[Nat.pow_succ,Nat.mul_assoc,Nat.mul_comm (2 ^ n) 2]
 have h3:q * 2 * 2 ^ n≤m * 2 ^ n:=Nat.mul_le_mul_right _ h1
 omega
theorem pow_bound {m n m0 K:Nat} (h:m * 2 ^ n≤m0) (hm:0 < m) (h0:m0 < 18446744073709551616 ^ K):n < 64 * K:=by
 have h1:2 ^ n≤m * 2 ^ n:=Nat.le_mul_of_pos_left _ hm
 have h2:(18446744073709551616:Nat) ^ K=2 ^ (64 * K):=by rw[show (18446744073709551616:Nat)=2 ^ 64 from rfl,←Nat.pow_mul]
 rw[h2] at h0
 exact (Nat.pow_lt_pow_iff_right (by omega)).1 (Nat.lt_of_le_of_lt (Nat.le_trans h1 h) h0)
theorem l_text_calls (ao:Option Addr) (n0 c0:Nat) (l0:List Nat) (w:World) (hs:Sl .u64 w ao n0 c0 l0) (hd:bi 18446744073709551616 l0) (hn:n0≤536870912):
  Calls Tryz.prog 69 #[.slice ao n0 c0] w (RetS w (dw (val 18446744073709551616 l0))):=by
 have hm0:=gp (by omega) hd.1
 rw[hs.len] at hm0
 have hbl:(dgs (val 18446744073709551616 l0)).length≤64 * n0:=by
  have h1:=qw (val 18446744073709551616 l0)
  have h2:bl (val 18446744073709551616 l0)≤64 * n0:=jy (by rwa [show (18446744073709551616:Nat)=2 ^ 64 from rfl,←Nat.pow_mul] at hm0)
  omega
 have hst:uw .u64 18446744073709551616 536870912 w (.slice ao n0 c0) (val 18446744073709551616 l0):=⟨_,_,_,_,rfl,hs,hd,rfl,hn⟩
 generalize hM:val 18446744073709551616 l0=m0 at *
 have HM0:=Lib.hid hm0
 have HST:=Lib.hid hst
 have HBL:=Lib.hid hbl
 clear hs hd hM hm0 hst hbl
 obtain⟨i0,hi,hz0,hz1,hz2⟩:=info_parts string_info
 go_enter Tryz.func69,Tryz.ntmps69
 go_wp2
 go_loopg [0,3] m0 (fun g av pv wr=>∃(m n:Nat) (ps:List (List UInt8)),m≤g∧uw .u64 18446744073709551616 536870912 wr av m∧wr.ownsRow w.heap.size 9 1 pv n (ps.map ib)∧m * 2 ^ n≤m0∧dgs m ++ ps.reverse.flatten=dgs m0∧Below w.heap.size w wr∧(n=0∨0 < m0))
 case atStart=>exact⟨m0,0,[],Nat.le_refl _,HST.out,World.ownsRow_nil _ _ _ _,by simp,by simp,Below.refl _ _,.inl rfl⟩
 case round=>
  obtain⟨m,n,ps,hmg,⟨a1,n1,c1,l1,rfl,hs1,hc1,hv1,hn1⟩,hown,hpow,hdg,hbel,hn00⟩:=hrel
  have hlen:=hown.1
  rw[List.length_map,Nat.mul_one] at hlen
  have HS1:=Lib.hid hs1
  have HC1:=Lib.hid hc1
  have HV1:=Lib.hid hv1
  have HOWN:=Lib.hid hown
  have HPOW:=Lib.hid hpow
  have HDG:=Lib.hid hdg
  have HB:=Lib.hid hbel
  have HLEN:=Lib.hid hlen
  have hpos:0 < n1↔0 < m:=by
   have:=hc1.length_pos_iff (by omega)
   rw[hs1.len,hv1] at this
   exact this
  have HN00:=Lib.hid hn00
  clear hs1 hc1 hv1 hown hpow hdg hbel HST hlen hn00
  by_cases h0:m=0
  ·subst h0
   obtain rfl:n1=0:=by omega
   clear hpos
   by_cases hn0:n=0
   ·subst hn0
    obtain⟨pa,pc,rfl,hpc,hpcm,hpn⟩:=rd HOWN.out
    go_wp2
    go_ret
    refine⟨?_,HB.out⟩
    have h1:=HDG.out
    obtain rfl:ps=[]:=List.length_eq_zero_iff.1 HLEN.out
    have h2:m0=0:=by
     by_cases h:m0=0
     ·exact h
     ·exfalso
      rw[gj,jc h] at h1
      simp at h1
    subst h2
    rfl
   ·obtain⟨g,pc,rfl,hgB,hgl⟩:=HOWN.out.form (by omega)
    have hnmax:n≤9223372036854775807:=by obtain⟨_,_,_,h1,h2,_⟩:=rd HOWN.out;omega
    have hn0':((n:Int) == 0)=false:=by rw[beq_eq_false_iff_ne];omega
    have hcells:∀j,j < n→wr.cell? ⟨g,j,none⟩=some (ib (ps[j]?.getD [])):=by
     intro j hj
     rw[HOWN.out.cellAt j (by omega),List.getElem?_map,List.getElem?_eq_getElem (by have:=HLEN.out;omega)]
     rfl
    have HCELLS:=Lib.hid hcells
    clear hcells
    have hnil:ps≠[]:=by intro e;subst e;have:=HLEN.out;simp at this;omega
    have hdec:dw m0=ps.reverse.flatten:=by
     have h1:=HDG.out
     rw[gj,List.nil_append] at h1
     unfold dw
     rw[if_neg,h1]
     intro e
     have:=HN00.out
     omega
    have hdl:ps.reverse.flatten.length≤64 * n0:=by
     have h1:=HDG.out
     rw[gj,List.nil_append] at h1
     rw[h1];exact HBL.out
    have HDL:=Lib.hid hdl
    have HDEC:=Lib.hid hdec
    clear hdec hdl
    have hb0:Lib.IsBuilder 138 5 wr.heap.size wr.heap.size (Lib.byteCells (ps.drop n).reverse.flatten) (wr.alloc (.cells #[.pointer none,.slice none 0 0] 138)):=by
     rw[List.drop_of_length_le (by have:=HLEN.out;omega)]
     exact .inl ⟨Nat.le_refl _,.slice none 0 0,heap_alloc_new wr _,World.ownsRow_nil _ _ _ _,by simp[Value.ownBlock]⟩
    have HB0:=Lib.hid hb0
    clear hb0
    obtain⟨wq,hwq⟩:∃wq:World,wq=wr:=⟨_,rfl⟩
    subst hwq
    go_wp2
    go_loopw [8] (fun iv w5=>∃k:Nat,k≤n∧iv=.int .i64 ((k:Int) - 1)∧Lib.IsBuilder 138 5 wq.heap.size wq.heap.size (Lib.byteCells (ps.drop k).reverse.flatten) w5∧Below wq.heap.size wq w5) (fun iv _=>(intOf iv + 1).toNat)
    case atStart=>exact⟨n,Nat.le_refl _,rfl,HB0.out,(Below.refl _ _).alloc (Nat.le_refl _) _⟩
    case round=>
     obtain⟨k,hk,rfl,hbk,hbe⟩:=hrel
     have HBK:=Lib.hid hbk
     have HBE:=Lib.hid hbe
     clear hbk hbe HB0
     by_cases hk0:k=0
     ·subst hk0
      go_wp2_with fail
      refine (Tryz.Builder_String_any _ _ _ _ HBK.out HBE.out.size).mono ?_
      rintro e w6 ⟨rfl,hb6⟩
      go_wp2
      go_ret
      exact⟨by rw[HDEC.out];rfl,HB.out.trans ((HBE.out.trans hb6).mono HB.out.size)⟩
     ·obtain⟨j,rfl⟩:∃j,k=j + 1:=⟨k - 1,by omega⟩
      have hc:=HCELLS.out j (by omega)
      have hc:=(HBE.out.cell (p:=⟨g,j,none⟩) hgl).trans hc
      have hpj:ps.drop j=(ps[j]?.getD []) ::ps.drop (j + 1):=by
       have hj:j < ps.length:=by have:=HLEN.out;omega
       rw[List.drop_eq_getElem_cons hj,List.getElem?_eq_getElem hj]
       rfl
      generalize ps[j]?.getD []=S at *
      have HPJ:=Lib.hid hpj
      clear hpj
      have hsum:(ps.drop (j + 1)).reverse.flatten.length + S.length≤64 * n0:=by
       have h1:=HDL.out
       rw[←List.take_append_drop j ps,HPJ.out,List.reverse_append,List.flatten_append,List.reverse_cons,List.flatten_append] at h1
       simp only[List.length_append,List.flatten_cons,List.flatten_nil,List.append_nil] at h1
       omega
      unfold ib at hc
      have HSUM:=Lib.hid hsum
      clear hsum
      go_wp2_with fail
      refine (writeString _ _ _ _ _ HBK.out (by rw[Lib.byteCells_length];have:=HSUM.out;simp only[ByteArray.size,List.size_toArray];omega) HBE.out.size).mono ?_
      rintro e w6 ⟨rfl,hb6,hbe6⟩
      have HB6:=Lib.hid hb6
      have HBE6:=Lib.hid hbe6
      clear hb6 hbe6
      go_wp2
      go_roundw
      case rel=>
       refine⟨j,by omega,by simp,?_,HBE.out.trans HBE6.out⟩
       have:=HB6.out
       rw[Lib.strCells_eq,←Lib.byteCells_append] at this
       rw[HPJ.out,List.reverse_cons,List.flatten_append,List.flatten_cons,List.flatten_nil,List.append_nil]
       exact .inr this
      all_goals first|(simp[intOf];done)|(simp[intOf];omega)
  ·have hn1p:0 < n1:=hpos.2 (by omega)
   have hn1p':0 < (n1:Int):=by omega
   have hm0p:0 < m0:=Nat.lt_of_lt_of_le (Nat.mul_pos (by omega) (Nat.pow_pos (by omega))) HPOW.out
   clear hpos
   go_wp2_with fail
   refine (l_byChunk _ _ _ _ _ HS1.out HC1.out.1 (by omega)).mono ?_
   rintro e w1 ⟨v,rfl,⟨a2,n2,c2,l2,rfl,hs2,hc2,hv2⟩,hb⟩
   rw[HV1.out] at hv2 ⊢
   have hown1:=qz HOWN.out hb
   have hbe1:=HB.out.trans (hb.mono HB.out.size)
   have hr:m % 10 ^ 19 < 18446744073709551616:=Nat.lt_trans (Nat.mod_lt _ (by decide)) (by decide)
   have hn2:n2≤536870912:=by
    have:=hc2.length_le_of (by omega) HC1.out (by rw[hv2,HV1.out];exact Nat.div_le_self _ _)
    rw[hs2.len,HS1.out.len] at this
    omega
   have hq2:0 < n2↔0 < m / 10 ^ 19:=by
    have:=hc2.length_pos_iff (by omega)
    rw[hs2.len,hv2] at this
    exact this
   have hlr:=dgs_len 19 (m % 10 ^ 19) (Nat.mod_lt _ (by decide))
   have HS2:=Lib.hid hs2
   have HC2:=Lib.hid hc2
   have HV2:=Lib.hid hv2
   have HOWN1:=Lib.hid hown1
   have HB1:=Lib.hid hbe1
   have HR:=Lib.hid hr
   clear hs2 hc2 hv2 hown1 hbe1 hb hr
   generalize hmr:m % 10 ^ 19=r at *
   have HMR:=Lib.hid hmr
   clear hmr
   go_wp2_with fail
   refine (zs r _ HR.out).mono ?_
   rintro e w2 ⟨rfl,hb⟩
   have hown2:=qz HOWN1.out hb
   have hbe2:=HB1.out.trans (hb.mono HB1.out.size)
   have hs2':=HS2.out.mono hb
   have HS2':=Lib.hid hs2'
   have HOWN2:=Lib.hid hown2
   have HB2:=Lib.hid hbe2
   clear hs2' hown2 hbe2 hb
   generalize hT:dgs r=T at *
   have HT:=Lib.hid hT
   clear hT
   by_cases hq:m / 10 ^ 19=0
   ·obtain rfl:n2=0:=by omega
    clear hq2
    have hnb:=pow_bound HPOW.out (by omega) HM0.out
    go_wp2_with (at_builtin;refine wpList_append_lies _ rfl _ _ _ rfl w.heap.size 9 i0 _ 1 16 Tryz.underlying130 hi hz0 hz1 hz2 rfl (by omega) _ n (ps.map ib) rfl (HOWN2.out.alloc _) ⟨w2.heap.size,0,none⟩ 1 1 [ib T] rfl rfl (news_new _ _ _) ?c1 (by omega) ?c2 ?c3 ?c4 _ rfl ?_)
    case c1=>intro u hu;simp at hu;subst hu;rfl
    case c2=>unfold maxLen;omega
    case c3=>omega
    case c4=>have:=HB2.out.size;simp;omega
    intro g cap w3 hown3 hgrow3 hat3 hlt3
    have HOWN3:=Lib.hid hown3
    have ho3:=iu (HOWN2.out.alloc (.cells #[ib T] 9)) hgrow3
    have HO3:=Lib.hid ho3
    have HB3:=Lib.hid (zi (HOWN2.out.alloc (.cells #[ib T] 9)) hgrow3 (HB2.out.alloc HB2.out.size _) (by have:=HB2.out.size;simp;omega))
    have HS3:=Lib.hid ((HS2'.out.mono ((Below.refl _ _).alloc (Nat.le_refl _) (.cells #[ib T] 9))).onlyT ho3 (by decide))
    clear hown3 hgrow3 ho3
    go_wp2
    go_roundg 0
    case measure=>omega
    case rel=>
     refine⟨0,n + 1,ps ++ [T],Nat.le_refl _,⟨_,_,_,_,rfl,HS3.out,HC2.out,by rw[HV2.out];exact hq,by omega⟩,by simpa using HOWN3.out,by simp,?_,HB3.out,.inr hm0p⟩
     rw[←HDG.out,gj,List.reverse_append,List.flatten_append,←HT.out,←HMR.out,dgs_one19 hq]
     simp
   ·have hn2p:0 < (n2:Int):=by omega
    clear hq2
    have hnb:=pow_bound HPOW.out (by omega) HM0.out
    go_wp2_with fail
    rw[show (19 - (T.length:Int))=((19 - T.length:Nat):Int) from by omega]
    refine (repeat0 _ (by omega) _).mono ?_
    rintro e w3 ⟨rfl,rfl⟩
    have hzl:(List.replicate (19 - T.length) (48:UInt8)).length=19 - T.length:=List.length_replicate
    generalize hZ:List.replicate (19 - T.length) (48:UInt8)=Z at *
    have HZ:=Lib.hid hZ
    clear hZ
    have hcat:∀W:World,(Op.stringOp .add ⟨Z.toArray⟩ ⟨T.toArray⟩).run Tryz.prog W=.ok (.string ⟨(Z ++ T).toArray⟩) W:=fun W=>by
     rw[run_string_add_sum,ja]
     simp only[ByteArray.size,List.size_toArray]
     omega
    go_wp2_with (at_builtin;refine wpList_append_lies _ rfl _ _ _ rfl w.heap.size 9 i0 _ 1 16 Tryz.underlying130 hi hz0 hz1 hz2 rfl (by omega) _ n (ps.map ib) rfl (HOWN2.out.alloc _) ⟨w3.heap.size,0,none⟩ 1 1 [ib (Z ++ T)] rfl rfl (news_new _ _ _) ?c1 (by omega) ?c2 ?c3 ?c4 _ rfl ?_)
    case c1=>intro u hu;simp at hu;subst hu;rfl
    case c2=>unfold maxLen;omega
    case c3=>omega
    case c4=>have:=HB2.out.size;simp;omega
    intro g cap w4 hown3 hgrow3 hat3 hlt3
    have HOWN3:=Lib.hid hown3
    have ho3:=iu (HOWN2.out.alloc (.cells #[ib (Z ++ T)] 9)) hgrow3
    have HB3:=Lib.hid (zi (HOWN2.out.alloc (.cells #[ib (Z ++ T)] 9)) hgrow3 (HB2.out.alloc HB2.out.size _) (by have:=HB2.out.size;simp;omega))
    have HS3:=Lib.hid ((HS2'.out.mono ((Below.refl _ _).alloc (Nat.le_refl _) (.cells #[ib (Z ++ T)] 9))).onlyT ho3 (by decide))
    clear hown3 hgrow3 ho3 hcat
    go_wp2
    go_roundg (m / 10 ^ 19)
    case measure=>have:=Nat.div_lt_self (show 0 < m by omega) (show 1 < 10 ^ 19 by decide);omega
    case rel=>
     refine⟨m / 10 ^ 19,n + 1,ps ++ [Z ++ T],Nat.le_refl _,⟨_,_,_,_,rfl,HS3.out,HC2.out,HV2.out,by omega⟩,by simpa using HOWN3.out,pow_step HPOW.out,?_,HB3.out,.inr hm0p⟩
     rw[←HDG.out,dgs_split19 (Nat.pos_of_ne_zero hq),HMR.out,HT.out,HZ.out,List.reverse_append,List.flatten_append]
     simp
end Go.Proofs.YtbnomdlojmgigaaGreat
namespace Go.Proofs.YtbnomdlojmgigaaGreat
open Go.RowKit Dg
def ux (k:IntKind) (B:Nat) (w:World) (x:Nat) (e:Ending) (w':World):Prop:=∃v,e=.returned v∧ck k B w' v x∧Below w.heap.size w w'
def rx (w:World) (q:Rat) (e:Ending) (w':World):Prop:=∃v,e=.returned v∧RV w' v q∧Below w.heap.size w w'
theorem dl (v:Value) (q:Rat) (w:World) (h:RV w v q):Calls Tryz.prog 90 #[v] w (ux .u32 4294967296 w q.den):=by
 obtain⟨vn,vd,d,rfl,⟨a1,n1,c1,l1,rfl,hs1,hc1,hv1⟩,⟨a2,n2,c2,l2,rfl,hs2,hc2,hv2⟩,hd⟩:=h
 have b2:n2≤9223372036854775807:=by have:=hs2.cap;have:=hs2.max;omega
 have HS2:=Lib.hid hs2
 have HC2:=Lib.hid hc2
 have HV2:=Lib.hid hv2
 have HD:=Lib.hid hd
 clear hs1 hc1 hv1 hs2 hc2 hv2 hd
 by_cases h0:n2=0
 ·subst h0
  have hl:l2=[]:=List.length_eq_zero_iff.1 HS2.out.len
  have hden:q.den=1:=by
   have hv:=HV2.out
   rw[hl] at hv
   rcases HD.out with h|h
   ·have:=q.den_pos;simp[val] at hv;omega
   ·exact h.2
  rw[hden]
  clear hl hden
  go_enter Tryz.func90,Tryz.ntmps90
  go_wp2_with fail
  refine (jj _ _ (by omega) (by omega)).mono ?_
  rintro e w1 ⟨v,rfl,hv,hb,_⟩
  have HV:=Lib.hid hv
  have HB:=Lib.hid hb
  clear hv hb
  go_wp2
  go_ret
  exact⟨_,rfl,HV.out,((Below.refl _ _).alloc (Nat.le_refl _) _).trans (HB.out.mono (by simp))⟩
 ·have h0':((n2:Int) == 0)=false:=by rw[beq_eq_false_iff_ne];omega
  have hden:q.den=val 4294967296 l2:=by
   have hpos:=HC2.out.pos (by omega) (by rw[HS2.out.len];omega)
   have hv:=HV2.out
   rcases HD.out with h|h
   ·rw[hv,h]
   ·omega
  rw[hden]
  clear hden
  go_enter Tryz.func90,Tryz.ntmps90
  go_wp2
  go_ret
  have hb:Below w.heap.size w (w.alloc (.cells #[Value.bool (ng q),.slice a1 n1 c1,.slice a2 n2 c2] 53)):=(Below.refl _ _).alloc (Nat.le_refl _) _
  exact⟨_,rfl,⟨_,_,_,_,rfl,HS2.out.mono hb,HC2.out,rfl⟩,hb⟩
theorem store3 {w:World} {g:Nat} (hg:nz w g) {s:Bool} {v1 v2:Value} {x y:Nat} (h1:ck .u32 4294967296 w v1 x) (h2:ck .u32 4294967296 w v2 y):
  ck .u32 4294967296 (((w.setCell ⟨g,0,none⟩ (.bool s)).setCell ⟨g,1,none⟩ v1).setCell ⟨g,2,none⟩ v2) v1 x∧ck .u32 4294967296 (((w.setCell ⟨g,0,none⟩ (.bool s)).setCell ⟨g,1,none⟩ v1).setCell ⟨g,2,none⟩ v2) v2 y:=by
 obtain⟨_,_,_,_,e1,_⟩:=id h1
 have g1:=hg.set 0 (.bool s) (fun k x=>by simp)
 have g2:=g1.set 1 v1 (fun k x=>by rw[e1];simp)
 exact⟨((h1.box hg 0 _).box g1 1 _).box g2 2 _,((h2.box hg 0 _).box g1 1 _).box g2 2 _⟩
theorem vf {B:Nat} {w0 w:World} {g:Nat} (h:Below B w0 w) (hg:B≤g) (u1 u2 u3:Value):Below B w0 (((w.setCell ⟨g,0,none⟩ u1).setCell ⟨g,1,none⟩ u2).setCell ⟨g,2,none⟩ u3):=
 ((h.setCell (p:=⟨g,0,none⟩) hg _).setCell (p:=⟨g,1,none⟩) hg _).setCell (p:=⟨g,2,none⟩) hg _
theorem ng_zero:ng 0=false:=by decide
theorem load_R {w:World} {g:Nat} {u0 u1 u2:Value} (h:df w g u0 u1 u2):(loadVar 53 ⟨g,0,none⟩).run Tryz.prog w=.ok (.agg #[u0,u1,u2]) w:=by
 obtain⟨h0,h1,h2⟩:=h.cells
 simp[go_sem,h0,h1,h2]
theorem ret_R {fn:Func} {p:Tmp} {w0 w1 w:World} {g:Nat} {q:Rat} {s:Bool} {v1 v2 u0 u1 u2:Value} {d:Nat} {a:Act} (hr:fn.results=#[.cell p 53]) (ha:a.tmps.getD p undef=.pointer (some ⟨g,0,none⟩)) (hdef:a.defers=[])
  (hbox:df w1 g u0 u1 u2) (hni:nz w1 g) (hw:w=((w1.setCell ⟨g,0,none⟩ (.bool s)).setCell ⟨g,1,none⟩ v1).setCell ⟨g,2,none⟩ v2)
  (hs:s=ng q) (h1:ck .u32 4294967296 w1 v1 q.num.natAbs) (h2:ck .u32 4294967296 w1 v2 d) (hd:d=q.den∨d=0∧q.den=1) (hb:Below w0.heap.size w0 w1) (hg:w0.heap.size≤g):
  bodyPost Tryz.prog fn (rx w0 q) .ret a w:=by
 subst hw
 subst hs
 have hst:=store3 (s:=ng q) hni h1 h2
 refine bodyPost_ret (v:=.agg #[.bool (ng q),v1,v2]) ?_ hdef ⟨_,rfl,⟨v1,v2,d,rfl,hst.1,hst.2,hd⟩,vf hb hg _ _ _⟩
 rw[ul hr,ha]
 exact load_R (hbox.set _ _ _)
theorem r_made_zero (neg:Bool) (a1:Option Addr) (c1:Nat) (vd:Value) (w:World):Calls Tryz.prog 92 #[.bool neg,.slice a1 0 c1,vd] w (rx w 0):=by
 go_enter Tryz.func92,Tryz.ntmps92
 go_wp2_with fail
 have hx0:=df.new w (.bool false) (.slice none 0 0) (.slice none 0 0) 53
 have hb0:Below w.heap.size w ((w.alloc (.cells #[.bool false,.slice none 0 0,.slice none 0 0] 53)).alloc (.cells #[] 150)):=((Below.refl _ _).alloc (Nat.le_refl _) _).alloc (by simp) _
 refine (jj _ _ (by omega) (by omega)).mono ?_
 rintro e w1 ⟨v,rfl,hv,hb,_⟩
 obtain⟨a2,n2,c2,l2,rfl,hs2,hc2,hv2⟩:=id hv
 have hx1:=(hx0.alloc _).below hb
 obtain⟨hc0,hc1,hc2⟩:=hx1.cells
 have hf:=hx1.free
 have hlt:w.heap.size + 1 < w1.heap.size:=by have:=hb.size;simp at this;omega
 have hbel:=hb0.trans (hb.mono (by simp;omega))
 have HV:=Lib.hid hv
 have HB:=Lib.hid hbel
 have HX:=Lib.hid hx1
 clear hb0 hv hb hs2 hv2 hbel hx0 hx1
 go_wp2
 have h0:ck .u32 4294967296 w1 (.slice (some ⟨w.heap.size + 1,0,none⟩) 0 0) 0:=⟨_,_,_,[],rfl,Sl.empty _ _ _ _ (by omega) (fun e=>by cases e),bi.nil _,rfl⟩
 exact ret_R rfl rfl rfl HX.out (HX.out.noInt (by simp) (by simp) (by simp)) rfl ng_zero.symm h0 HV.out (.inl rfl) HB.out (Nat.le_refl _)
theorem ck.sz {w:World} {v:Value} {x K:Nat} (h:ck .u32 4294967296 w v x) (hx:x < 4294967296 ^ K):uw .u32 4294967296 K w v x:=by
 obtain⟨ao,n,c,l,e,hs,hc,hv⟩:=h
 refine⟨ao,n,c,l,e,hs,hc,hv,?_⟩
 have:=hc.length_le (by omega) (by rw[hv];exact hx)
 rwa [hs.len] at this
theorem r_made_pos (neg:Bool) (a1 a2:Option Addr) (n1 c1 n2 c2:Nat) (l1 l2:List Nat) (w:World) (hs1:Sl .u32 w a1 n1 c1 l1) (hc1:bi 4294967296 l1) (hs2:Sl .u32 w a2 n2 c2 l2) (hc2:bi 4294967296 l2)
  (hn0:0 < n1) (hd0:0 < n2) (hn1:n1≤536870912) (hn2:n2≤536870912):
  Calls Tryz.prog 92 #[.bool neg,.slice a1 n1 c1,.slice a2 n2 c2] w (rx w (mkQ neg (val 4294967296 l1) (val 4294967296 l2))):=by
 have hv1:0 < val 4294967296 l1:=hc1.pos (by omega) (by rw[hs1.len];exact hn0)
 have hv2:0 < val 4294967296 l2:=hc2.pos (by omega) (by rw[hs2.len];exact hd0)
 generalize hx:val 4294967296 l1=x at *
 generalize hy:val 4294967296 l2=y at *
 have hq1:=ut neg x y (by omega)
 have hq2:=mkQ_den neg x y (by omega)
 have hq3:=mkQ_ng neg x y (by omega) (by omega)
 generalize mkQ neg x y=q at *
 have hg0:=Nat.gcd_pos_of_pos_left y hv1
 have hgx:Nat.gcd x y≤x:=Nat.le_of_dvd hv1 (Nat.gcd_dvd_left x y)
 have H1:=Lib.hid hs1
 have H2:=Lib.hid hs2
 have HC1:=Lib.hid hc1
 have HC2:=Lib.hid hc2
 have HX:=Lib.hid hx
 have HY:=Lib.hid hy
 have HQ1:=Lib.hid hq1
 have HQ2:=Lib.hid hq2
 have HQ3:=Lib.hid hq3
 have HGX:=Lib.hid hgx
 clear hs1 hs2 hc1 hc2 hx hy hq1 hq2 hq3 hgx
 generalize hG:Nat.gcd x y=G at *
 have HG:=Lib.hid hG
 clear hG
 have h0':((n1:Int) == 0)=false:=by rw[beq_eq_false_iff_ne];omega
 have hb0:Below w.heap.size w (w.alloc (.cells #[.bool false,.slice none 0 0,.slice none 0 0] 53)):=(Below.refl _ _).alloc (Nat.le_refl _) _
 have hx0:=df.new w (.bool false) (.slice none 0 0) (.slice none 0 0) 53
 have HB0:=Lib.hid hb0
 have HX0:=Lib.hid hx0
 clear hb0 hx0
 go_enter Tryz.func92,Tryz.ntmps92
 go_wp2_with fail
 refine (zu _ _ _ _ _ _ _ _ _ (H1.out.mono HB0.out) (H2.out.mono HB0.out) HC1.out HC2.out hn1 hn2).mono ?_
 rintro e w1 ⟨vg,rfl,⟨a3,n3,c3,l3,rfl,hs3,hc3,hv3⟩,hb1⟩
 rw[HX.out,HY.out,HG.out] at hv3
 have hn3:n3≤536870912:=by
  have:=hc3.length_le_of (by omega) HC1.out (by rw[hv3,HX.out];exact HGX.out)
  rw[hs3.len,H1.out.len] at this
  omega
 have hx1:=HX0.out.below hb1
 have hbel1:=HB0.out.trans (hb1.mono (by simp))
 have HS3:=Lib.hid hs3
 have HC3:=Lib.hid hc3
 have HV3:=Lib.hid hv3
 have HX1:=Lib.hid hx1
 have HB1:=Lib.hid hbel1
 clear hs3 hc3 hv3 hx1 hbel1 hb1
 go_wp2_with fail
 refine (jj _ _ (by omega) (by omega)).mono ?_
 rintro e w2 ⟨v4,rfl,⟨a4,n4,c4,l4,rfl,hs4,hc4,hv4⟩,hb2,_⟩
 rw[show Int.toNat 1=1 from rfl] at hv4
 have hx2:=HX1.out.below hb2
 have hbel2:=HB1.out.trans (hb2.mono HB1.out.size)
 have hs3':=HS3.out.mono hb2
 have HS4:=Lib.hid hs4
 have HC4:=Lib.hid hc4
 have HV4:=Lib.hid hv4
 have HX2:=Lib.hid hx2
 have HB2:=Lib.hid hbel2
 have HS3':=Lib.hid hs3'
 clear hs4 hc4 hv4 hx2 hbel2 hb2 hs3'
 go_wp2_with fail
 refine (mf _ _ _ _ _ _ _ _ _ HS3'.out HS4.out HC3.out HC4.out).mono ?_
 rintro e w3 ⟨q3,rfl,rfl⟩
 rw[HV3.out,HV4.out]
 have hbel3:Below w.heap.size w (w2.drewN q3):=it HB2.out q3
 have hx3:df (w2.drewN q3) w.heap.size (.bool false) (.slice none 0 0) (.slice none 0 0):=HX2.out
 have HB3:=Lib.hid hbel3
 have HX3:=Lib.hid hx3
 have hf3:=hx3.free
 obtain⟨k0,k1,k2⟩:=hx3.cells
 by_cases hG1:G=1
 ·subst hG1
  have hord:gn 1 1=0:=by decide
  have HORD:=Lib.hid hord
  clear hord
  rw[HORD.out]
  clear hbel3 hx3
  go_wp2
  refine ret_R rfl rfl rfl HX3.out (HX3.out.noInt (by simp) (by simp) (by simp)) rfl HQ3.out.symm (d:=y) ?_ ?_ (.inl ?_) HB3.out (Nat.le_refl _)
  ·rw[HQ1.out,Nat.div_one];exact⟨_,_,_,_,rfl,H1.out.mono HB3.out,HC1.out,HX.out⟩
  ·exact⟨_,_,_,_,rfl,H2.out.mono HB3.out,HC2.out,HY.out⟩
  ·rw[HQ2.out,Nat.div_one]
 ·have hord:gn G 1=1:=by unfold gn;rw[if_neg (by omega),if_pos (by omega)]
  have HORD:=Lib.hid hord
  clear hord
  rw[HORD.out]
  clear hbel3 hx3 hf3 k0 k1 k2
  go_wp2_with fail
  refine (kt _ _ _ _ _ _ _ _ _ (H1.out.mono HB3.out) (HS3'.out.mono (it (Below.refl _ _) q3)) HC1.out HC3.out hn1 hn3 (by rw[HV3.out];exact hg0)).mono ?_
  rintro e w4 ⟨v5,v6,rfl,hv5,_,hb4⟩
  rw[HX.out,HV3.out] at hv5
  obtain⟨a5,n5,c5,l5,rfl,_⟩:=id hv5
  have hx4:=HX3.out.below hb4
  have hbel4:=HB3.out.trans (hb4.mono HB3.out.size)
  have hs3'':=(HS3'.out.mono (it (Below.refl _ _) q3)).mono hb4
  have HV5:=Lib.hid hv5
  have HX4:=Lib.hid hx4
  have HB4:=Lib.hid hbel4
  have HS3'':=Lib.hid hs3''
  clear hv5 hx4 hbel4 hb4 hs3''
  go_wp2_with fail
  refine (kt _ _ _ _ _ _ _ _ _ (H2.out.mono HB4.out) HS3''.out HC2.out HC3.out hn2 hn3 (by rw[HV3.out];exact hg0)).mono ?_
  rintro e w5 ⟨v7,v8,rfl,hv7,_,hb5⟩
  rw[HY.out,HV3.out] at hv7
  obtain⟨a7,n7,c7,l7,rfl,_⟩:=id hv7
  have hx5:=HX4.out.below hb5
  have hbel5:=HB4.out.trans (hb5.mono HB4.out.size)
  have hv5':=HV5.out.mono hb5
  have hf5:=hx5.free
  obtain⟨k0,k1,k2⟩:=hx5.cells
  have HV7:=Lib.hid hv7
  have HX5:=Lib.hid hx5
  have HB5:=Lib.hid hbel5
  have HV5':=Lib.hid hv5'
  clear hv7 hx5 hbel5 hb5 hv5'
  go_wp2
  refine ret_R rfl rfl rfl HX5.out (HX5.out.noInt (by simp) (by simp) (by simp)) rfl HQ3.out.symm (d:=y / G) ?_ HV7.out (.inl HQ2.out.symm) HB5.out (Nat.le_refl _)
  rw[HQ1.out];exact HV5'.out
theorem ck.zero_of {w:World} {v:Value} (h:ck .u32 4294967296 w v 0):∃a c,v=.slice a 0 c:=by
 obtain⟨ao,n,c,l,e,hs,hc,hv⟩:=h
 have:=hc.nil_of (by omega) hv
 subst this
 have:=hs.len
 simp at this
 subst this
 exact⟨_,_,e⟩
theorem jr (neg:Bool) (vn vd:Value) (n d K:Nat) (w:World) (hn:ck .u32 4294967296 w vn n) (hd:ck .u32 4294967296 w vd d) (hd0:d≠0) (hK:K≤536870912)
  (h1:n < 4294967296 ^ K) (h2:d < 4294967296 ^ K):Calls Tryz.prog 92 #[.bool neg,vn,vd] w (rx w (mkQ neg n d)):=by
 rcases Nat.eq_zero_or_pos n with h|h
 ·subst h
  obtain⟨a,c,rfl⟩:=hn.zero_of
  rw[mkQ_zero]
  exact r_made_zero _ _ _ _ _
 ·obtain⟨a1,n1,c1,l1,rfl,hs1,hc1,rfl,hn1⟩:=hn.sz h1
  obtain⟨a2,n2,c2,l2,rfl,hs2,hc2,rfl,hn2⟩:=hd.sz h2
  refine r_made_pos neg _ _ _ _ _ _ _ _ _ hs1 hc1 hs2 hc2 ?_ ?_ (by omega) (by omega)
  ·rw[←hs1.len];exact (hc1.length_pos_iff (by omega)).2 h
  ·rw[←hs2.len];exact (hc2.length_pos_iff (by omega)).2 (by omega)
end Go.Proofs.YtbnomdlojmgigaaGreat
