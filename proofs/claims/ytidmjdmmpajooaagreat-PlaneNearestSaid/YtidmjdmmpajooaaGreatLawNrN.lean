/-
  law 02: PlaneNearest.
-/
import Derived.Test.YtidmjdmmpajooaaGreatPkV22N
import Derived.Test.YtidmjdmmpajooaaGreatPkV14N
set_option linter.unusedSimpArgs false
set_option linter.unusedVariables false
set_option maxRecDepth 100000
set_option maxHeartbeats 16000000
namespace Go.Proofs.YtidmjdmmpajooaaGreat
open Go.RowKit Dg
attribute [local go_sem ↓] Go.wp_at_zero Go.wp_at_succ
theorem LYp (l:List Value) (ds:List Deferred) (d:Nat) (v:Value):Act.put ⟨l.toArray,ds⟩ (some d) v=⟨(l.set d v).toArray,ds⟩:=LY.1 l ds d v
theorem chk_rt {l:List Pt} (h:fl l=0) {j:Nat} (hj:j < l.length):rtB (ptZ l j)=true:=by
 unfold fl at h
 split at h
 ·cases h
 split at h
 ·cases h
 split at h
 ·rename_i h3
  exact List.all_eq_true.1 h3 _ (List.mem_of_getElem? (jb0 hj))
 cases h
theorem ds_szE (l:List Pt) (x:Pt):SzQ 10 (dsE l x):=by
 unfold dsE
 split
 ·rename_i h
  unfold weE at h
  split at h
  ·rename_i h1
   split at h
   ·rename_i h2
    unfold diQ
    split
    ·exact jn.mono (by decide)
    exact bq_sz (kg h1).2.2 (jm h2) _
   cases h
  rename_i h1;exact absurd h h1
 exact jn.mono (by decide)
theorem part10 {c:Int} (h0:0≤c) (h1:c≤10):(0:Rat)≤((c:Int):Rat) / ((10:Int):Rat)∧((c:Int):Rat) / ((10:Int):Rat)≤1:=by
 have a:=Rat.intCast_le_intCast.2 h0
 have b:=Rat.intCast_le_intCast.2 h1
 constructor<;>grind
theorem modS (ni:Int) (n:Nat) (h:0≤ni):((ni).toNat % n + 1) % n=(ni + 1).toNat % n:=by
 rw[show (ni + 1).toNat=ni.toNat + 1 from by omega,Nat.mod_add_mod]
theorem l2_whole (n:Int) (w:World) (h:Wn 9223372036854775807 n):
  Calls Tryz.prog 14 #[.int .i64 n] w (mp w (n:Rat)):=by
 have hs:=Below.refl w.heap.size w
 go_enter Tryz.func14,Tryz.ntmps14
 go_wp2_with fail
 refine Calls.abs ?_
 intro w1 hW
 have hG:Gr [] w w1:=by rw[hW];exact (Gr.refl _ _).alloc
 have sz_w1:=hs.size
 have Blk:Bx w1 (w.heap.size) 37 #[.bool false,.slice none 0 0,.slice none 0 0]:=by rw[hW];exact (Bx.new0 _ _ _)
 replace hs:=hs.trans (hG.below0 hs.size)
 clear hW hG
 have hz_w1:=Blk.lt
 with_reducible refine (p_Int_calls n _ (h.lo64 (by decide)) (h.hi (by decide))).mono ?_
 rintro e w2 ⟨_,rfl,h1,hb⟩
 obtain⟨sh1,ah1,nh1,ch1,Ah1,Nh1,Ch1,rfl⟩:=h1.shape
 revert Blk;refine mS hs hb ?_;clear hs hb;intro hs Blk
 refine Blk.k3fl fun Bh Bi Bj fk Lk=>?_
 go_wp2
 clear Bh Bi Bj fk Lk
 refine bodyPost.abs ?_
 intro w3 hW
 have hG:Gr [w.heap.size] w2 w3:=by rw[hW];exact (Gr.refl _ _).set.set.set
 have hsz:=hs.size
 have lk:=Blk.lt
 have hk:=hG.keep ⟨⟨_,Blk.ty,by decide⟩,True.intro⟩
 have Bl1k:Bx w3 (w.heap.size) 37 #[.bool sh1,.slice ah1 nh1 ch1,.slice Ah1 Nh1 Ch1]:=by rw[hW];exact Blk.set3
 replace hs:=hs.trans (hG.d1 hs.size)
 replace Blk:=Bl1k
 clear Bl1k
 replace h1:=h1.keep hk
 clear hW hG hk hsz lk
 refine Blk.k3 fun Bh Bi Bj=>?_
 exact bodyPost_ret (v:=.agg #[.bool sh1,.slice ah1 nh1 ch1,.slice Ah1 Nh1 Ch1]) (by simp[results,Tryz.results14,go_sem,Bh,Bi,Bj]) rfl ⟨_,rfl,h1,hs⟩
theorem l2_PlaneNearest (haw:∀w:World,Calls Tryz.prog 5 #[] w (fj w (.bool true))) (v u:Value) (l mm:List Pt) (ni nk nt:Int) (w:World) (hl:Pts w v l) (hm:Pts w u mm) (i0:0≤ni) (i1:ni≤255) (k0:0≤nk) (k1:nk≤255) (t0:0≤nt) (t1:nt≤255):
  Calls Tryz.prog 4 #[v,u,.int .u8 ni,.int .u8 nk,.int .u8 nt] w (fj w (.bool true)):=by
 obtain⟨al,cl,rfl, -, -, -⟩:=hl.slice
 obtain⟨am,cm,rfl, -, -, -⟩:=hm.slice
 have hs:=Below.refl w.heap.size w
 have HL:=ae hl
 have HM:=ae hm
 have HAW:=ae haw
 clear hl hm haw
 go_enter Tryz.func4,Tryz.ntmps4
 by_cases q1:6 < l.length
 ·have q1d:((6:Int) < (l.length:Int))=True:=eq_true (by omega)
  go_wp2_with fail
  with_reducible refine (HAW.out _).mono ?_
  rintro e w1 ⟨rfl,hb⟩
  replace hs:=ar hs hb
  clear hb
  go_wp2
  go_ret
  exact⟨rfl,hs⟩
 have q1d:((6:Int) < (l.length:Int))=False:=eq_false (by omega)
 by_cases q2:6 < mm.length
 ·have q2d:((6:Int) < (mm.length:Int))=True:=eq_true (by omega)
  go_wp2_with fail
  with_reducible refine (HAW.out _).mono ?_
  rintro e w1 ⟨rfl,hb⟩
  replace hs:=ar hs hb
  clear hb
  go_wp2
  go_ret
  exact⟨rfl,hs⟩
 have q2d:((6:Int) < (mm.length:Int))=False:=eq_false (by omega)
 go_wp2_with fail
 with_reducible refine (tg _ l _ (be.mono IP.kept HL.out hs)).mono ?_
 rintro e w1 ⟨rfl,hb⟩
 replace hs:=ar hs hb
 clear hb
 obtain⟨ck3,Hck3⟩:∃s:Int,s=fl l:=⟨_,rfl⟩
 rw[←Hck3]
 replace Hck3:=ae Hck3
 by_cases q4:ck3=0
 ·have q4b:(ck3 == 0)=true:=beq_iff_eq.2 (by omega)
  have q4n:(ck3 != 0)=false:=bne_eq_false_iff_eq.2 (by omega)
  have q4H:=ae q4
  clear q4
  go_wp2_with fail
  with_reducible refine (tg _ mm _ (be.mono IP.kept HM.out hs)).mono ?_
  rintro e w2 ⟨rfl,hb⟩
  replace hs:=ar hs hb
  clear hb
  obtain⟨ck5,Hck5⟩:∃s:Int,s=fl mm:=⟨_,rfl⟩
  rw[←Hck5]
  replace Hck5:=ae Hck5
  by_cases q6:ck5=0
  ·have q6b:(ck5 == 0)=true:=beq_iff_eq.2 (by omega)
   have q6n:(ck5 != 0)=false:=bne_eq_false_iff_eq.2 (by omega)
   have q6H:=ae q6
   clear q6
   have HCL:=ae (show fl l=0 from Hck3.out.symm.trans q4H.out)
   have HKL:=ae (kg HCL.out)
   have nL:=HKL.out.2.1
   obtain⟨lb,lof,lbc,hv_, -, -⟩:=ep HL.out (by omega)
   obtain⟨rfl,rfl⟩:=yk hv_
   clear hv_
   have HCM:=ae (show fl mm=0 from Hck5.out.symm.trans q6H.out)
   have HKM:=ae (kg HCM.out)
   have nM:=HKM.out.2.1
   obtain⟨mb,mof,mbc,hv_, -, -⟩:=ep HM.out (by omega)
   obtain⟨rfl,rfl⟩:=yk hv_
   clear hv_
   have AXni:IntKind.i64.wrap ni=ni:=IntWalk.i64_in _ (by omega)
   have AXnk:IntKind.i64.wrap nk=nk:=IntWalk.i64_in _ (by omega)
   have HSA:=ae (ap_szZ HKL.out.2.2 HKM.out.2.2)
   obtain⟨DA,hDA⟩:∃z:Rat,z=apZ l mm:=⟨_,rfl⟩
   clear hDA
   go_wp2_with fail
   with_reducible refine (pl_Apart _ _ l mm _ (be.mono IP.kept HL.out hs) (be.mono IP.kept HM.out hs) HCL.out HCM.out).mono ?_
   rintro e w3 ⟨_,_,rfl,h7,rfl,hb⟩
   obtain⟨sh7,ah7,nh7,ch7,Ah7,Nh7,Ch7,rfl⟩:=h7.shape
   replace hs:=ar hs hb
   clear hb
   obtain⟨m9,Hm9⟩:∃z:Nat,z=(nk).toNat % mm.length:=⟨_,rfl⟩
   have hm9:m9 < mm.length:=by rw[Hm9];exact Nat.mod_lt _ (by omega)
   have AX8:Int.tmod (nk) (mm.length:Int)=(m9:Int):=by rw[Hm9,Int.tmod_eq_emod_of_nonneg (by omega),show nk=(((nk).toNat:Nat):Int) from by omega];rfl
   replace Hm9:=ae Hm9
   have AX8z:((mm.length:Int)=0)=False:=eq_false (by omega)
   have AX8n:(mm=[])=False:=eq_false (fun e=>by rw[e] at hm9;exact absurd hm9 (by simp))
   have AX8d:(m9 < mm.length)=True:=eq_true hm9
   have AX8w:IntKind.i64.wrap (m9:Int)=(m9:Int):=IntWalk.i64_in _ (by omega)
   obtain⟨Bk,Bl,le10⟩:=ij (be.mono IP.kept HM.out hs) (show m9 < mm.length by omega)
   obtain⟨pe10,Hpe10⟩:∃z:Pt,z=ptZ mm m9:=⟨_,rfl⟩
   rw[←Hpe10] at Bk Bl
   have Bpe10:WP 1048576 pe10:=by rw[Hpe10];exact p0_wp HKM.out.2.2 m9
   replace Hpe10:=ae Hpe10
   have HRQ:=ae (show rtB pe10=true from by rw[Hpe10.out];exact chk_rt HCM.out (by omega))
   have Hre:=ae (show (0:Int)=weE l pe10 from (we_3 HCL.out HRQ.out).symm)
   have HDS:=ae (show dsE l pe10=diQ l pe10 from if_pos (we_3 HCL.out HRQ.out))
   have HSD:=ae (ds_szE l pe10)
   have HLE:=ae (show apZ l mm≤dsE l pe10 from by rw[HDS.out,Hpe10.out];exact ap_le (by omega))
   go_wp2_with fail
   clear le10 Bk Bl
   refine Calls.abs ?_
   intro w4 hW
   have hG:Gr [] w3 w4:=by rw[hW];exact (Gr.refl _ _).alloc.alloc
   have hk:=hG.keep True.intro
   have sz_w4:=hs.size
   have Bld:Bx w4 (w3.heap.size) 37 #[.bool sh7,.slice ah7 nh7 ch7,.slice Ah7 Nh7 Ch7]:=by rw[hW];exact ((Bx.new0 _ _ _).alloc _)
   have Blq:Bx w4 (w3.heap.size + 1) 24 #[.int .i64 pe10.1,.int .i64 pe10.2]:=by rw[hW];exact (Bx.new0 _ _ _)
   replace hs:=hs.trans (hG.below0 hs.size)
   replace h7:=h7.keep hk
   clear hW hG hk
   have hz_w4:=Blq.lt
   with_reducible refine (tj _ l pe10 _ (be.mono IP.kept HL.out hs) (re:=0) Hre.out).mono ?_
   rintro e w5 ⟨_,_,rfl,h11,rfl,hb⟩
   obtain⟨sh11,ah11,nh11,ch11,Ah11,Nh11,Ch11,rfl⟩:=h11.shape
   revert h7;revert Blq;revert Bld;refine mS hs hb ?_;clear hs hb;intro hs Bld Blq h7
   refine Bld.k3l fun Be Bf Bg Ld=>?_
   go_wp2_with fail
   clear Be Bf Bg Ld
   refine Calls.abs ?_
   intro w6 hW
   have hG:Gr [] w5 w6:=by rw[hW];exact (Gr.refl _ _).alloc
   have sz_w6:=hs.size
   have nd_w6:=Bld.lt
   have nq_w6:=Blq.lt
   have Blo:Bx w6 (w5.heap.size) 37 #[.bool sh11,.slice ah11 nh11 ch11,.slice Ah11 Nh11 Ch11]:=by rw[hW];exact (Bx.new0 _ _ _)
   replace hs:=hs.trans (hG.below0 hs.size)
   revert h11 Bld Blq h7;refine g0 hG ?_;intro h11 Bld Blq h7
   clear hW hG
   have hz_w6:=Blo.lt
   with_reducible refine (pSign h7).mono ?_
   rintro e w7 ⟨rfl,hb⟩
   revert Blo h11 Bld Blq h7;refine mS hs hb ?_;clear hs hb;intro hs Blo h11 Bld Blq h7
   obtain⟨sg12,Hsg12⟩:∃s:Int,s=sgQ (apZ l mm):=⟨_,rfl⟩
   rw[←Hsg12]
   replace Hsg12:=ae Hsg12
   have q13:¬ (apZ l mm < 0):=(Rat.not_lt.2 (ap_nn l mm))
   have q13_:¬ (sg12 < 0):=by have h:=s1_lt (apZ l mm);rw[←Hsg12.out] at h;exact fun h1=>q13 (h.1 h1)
   have q13H:=ae q13
   clear q13
   have q13d:decide (sg12 < 0)=false:=decide_eq_false q13_
   refine Bld.k3l fun Be Bf Bg Ld=>?_
   refine Blo.k3l fun B2 B3 B4 Lo=>?_
   go_wp2_with fail
   clear Be Bf Bg B2 B3 B4 Ld Lo
   with_reducible refine (uk h7 h11 (SzQ.fit HSA.out) (SzQ.fit HSD.out)).mono ?_
   rintro e w8 ⟨rfl,hb⟩
   revert Blo h11 Bld Blq h7;refine mS hs hb ?_;clear hs hb;intro hs Blo h11 Bld Blq h7
   obtain⟨sg14,Hsg14⟩:∃s:Int,s=sgQ ((apZ l mm) - (dsE l pe10)):=⟨_,rfl⟩
   rw[←Hsg14]
   replace Hsg14:=ae Hsg14
   have q15:¬ (dsE l pe10 < apZ l mm):=(Rat.not_lt.2 HLE.out)
   have q15_:¬ (0 < sg14):=by have h:=rt (apZ l mm) (dsE l pe10);rw[←Hsg14.out] at h;exact fun h1=>q15 (h.1 h1)
   have q15H:=ae q15
   clear q15
   have q15d:decide (0 < sg14)=false:=decide_eq_false q15_
   go_upto_region 8 with fail
   obtain⟨m17,Hm17⟩:∃z:Nat,z=(ni).toNat % l.length:=⟨_,rfl⟩
   have hm17:m17 < l.length:=by rw[Hm17];exact Nat.mod_lt _ (by omega)
   have AX16:Int.tmod (ni) (l.length:Int)=(m17:Int):=by rw[Hm17,Int.tmod_eq_emod_of_nonneg (by omega),show ni=(((ni).toNat:Nat):Int) from by omega];rfl
   replace Hm17:=ae Hm17
   have AX16z:((l.length:Int)=0)=False:=eq_false (by omega)
   have AX16n:(l=[])=False:=eq_false (fun e=>by rw[e] at hm17;exact absurd hm17 (by simp))
   have AX16d:(m17 < l.length)=True:=eq_true hm17
   have AX16w:IntKind.i64.wrap (m17:Int)=(m17:Int):=IntWalk.i64_in _ (by omega)
   obtain⟨B1,Bb,le18⟩:=ij (be.mono IP.kept HL.out hs) (show m17 < l.length by omega)
   obtain⟨pe18,Hpe18⟩:∃z:Pt,z=ptZ l m17:=⟨_,rfl⟩
   rw[←Hpe18] at B1 Bb
   have Bpe18:WP 1048576 pe18:=by rw[Hpe18];exact p0_wp HKL.out.2.2 m17
   replace Hpe18:=ae Hpe18
   have AX19:IntKind.i64.wrap (ni + 1)=ni + 1:=IntWalk.i64_in _ (by omega)
   obtain⟨m21,Hm21⟩:∃z:Nat,z=(ni + 1).toNat % l.length:=⟨_,rfl⟩
   have hm21:m21 < l.length:=by rw[Hm21];exact Nat.mod_lt _ (by omega)
   have AX20:Int.tmod (ni + 1) (l.length:Int)=(m21:Int):=by rw[Hm21,Int.tmod_eq_emod_of_nonneg (by omega),show ni + 1=(((ni + 1).toNat:Nat):Int) from by omega];rfl
   replace Hm21:=ae Hm21
   have AX20z:((l.length:Int)=0)=False:=eq_false (by omega)
   have AX20n:(l=[])=False:=eq_false (fun e=>by rw[e] at hm21;exact absurd hm21 (by simp))
   have AX20d:(m21 < l.length)=True:=eq_true hm21
   have AX20w:IntKind.i64.wrap (m21:Int)=(m21:Int):=IntWalk.i64_in _ (by omega)
   obtain⟨Bc,Bd,le22⟩:=ij (be.mono IP.kept HL.out hs) (show m21 < l.length by omega)
   obtain⟨pe22,Hpe22⟩:∃z:Pt,z=ptZ l m21:=⟨_,rfl⟩
   rw[←Hpe22] at Bc Bd
   have Bpe22:WP 1048576 pe22:=by rw[Hpe22];exact p0_wp HKL.out.2.2 m21
   replace Hpe22:=ae Hpe22
   go_cut [16,17] (fun kv0 kv1 wz=>∃gp gn,kv0=.pointer (some ⟨gp,0,none⟩)∧kv1=.pointer (some ⟨gn,0,none⟩)∧w.heap.size≤gp∧gp≠w3.heap.size∧gp≠(w3.heap.size + 1)∧gp≠w5.heap.size∧w.heap.size≤gn∧gn≠w3.heap.size∧gn≠(w3.heap.size + 1)∧gn≠w5.heap.size∧gp≠gn∧Bx wz gp 24 #[.int .i64 pe18.1,.int .i64 pe18.2]∧Bx wz gn 24 #[.int .i64 pe22.1,.int .i64 pe22.2]∧Below w.heap.size w wz∧Bx wz (w3.heap.size) 37 #[.bool sh7,.slice ah7 nh7 ch7,.slice Ah7 Nh7 Ch7]∧Bx wz (w3.heap.size + 1) 24 #[.int .i64 pe10.1,.int .i64 pe10.2]∧Bx wz (w5.heap.size) 37 #[.bool sh11,.slice ah11 nh11 ch11,.slice Ah11 Nh11 Ch11]∧PV wz (.agg #[.bool sh7,.slice ah7 nh7 ch7,.slice Ah7 Nh7 Ch7]) (apZ l mm)∧PV wz (.agg #[.bool sh11,.slice ah11 nh11 ch11,.slice Ah11 Nh11 Ch11]) (dsE l pe10))
   case first=>
    refine bw (S:=fun w'=>w'.cell? ⟨lb,lof + m17 * 2,none⟩=some (.int .i64 pe18.1)∧w'.cell? ⟨lb,lof + m17 * 2 + 1,none⟩=some (.int .i64 pe18.2)∧w'.cell? ⟨lb,lof + m21 * 2,none⟩=some (.int .i64 pe22.1)∧w'.cell? ⟨lb,lof + m21 * 2 + 1,none⟩=some (.int .i64 pe22.2)) (by kernel_rfl) 20 ?_
    refine cq.abs ?_
    intro w9 hW
    have hb:Below w8.heap.size w8 w9:=by rw[hW];exact de _
    replace hs:=ar hs hb
    revert Blo h11 Bld Blq h7;refine mo hb ?_;intro Blo h11 Bld Blq h7
    replace B1:=ah B1 hb
    replace Bb:=ah Bb hb
    replace Bc:=ah Bc hb
    replace Bd:=ah Bd hb
    clear hb hW
    obtain⟨FP,HP⟩:∃FP:World→Prop,∀W,FP W↔(Below w.heap.size w W∧Bx W (w3.heap.size) 37 #[.bool sh7,.slice ah7 nh7 ch7,.slice Ah7 Nh7 Ch7]∧Bx W (w3.heap.size + 1) 24 #[.int .i64 pe10.1,.int .i64 pe10.2]∧Bx W (w5.heap.size) 37 #[.bool sh11,.slice ah11 nh11 ch11,.slice Ah11 Nh11 Ch11]∧PV W (.agg #[.bool sh7,.slice ah7 nh7 ch7,.slice Ah7 Nh7 Ch7]) (apZ l mm)∧PV W (.agg #[.bool sh11,.slice ah11 nh11 ch11,.slice Ah11 Nh11 Ch11]) (dsE l pe10)∧W.cell? ⟨lb,lof + m17 * 2,none⟩=some (.int .i64 pe18.1)∧W.cell? ⟨lb,lof + m17 * 2 + 1,none⟩=some (.int .i64 pe18.2)∧W.cell? ⟨lb,lof + m21 * 2,none⟩=some (.int .i64 pe22.1)∧W.cell? ⟨lb,lof + m21 * 2 + 1,none⟩=some (.int .i64 pe22.2)):=⟨_,fun _=>Iff.rfl⟩
    have HM:∀W W',FP W→Below W.heap.size W W'→FP W':=by intro W W' h hb;obtain⟨hs,Bld,Blq,Blo,h7,h11,B1,Bb,Bc,Bd⟩:=(HP _).1 h;exact (HP _).2 ⟨ar hs hb,Bld.mono hb,Blq.mono hb,Blo.mono hb,h7.mono hb,h11.mono hb,ah B1 hb,ah Bb hb,ah Bc hb,ah Bd hb⟩
    have HC:∀W,FP W→W.cell? ⟨lb,lof + m17 * 2,none⟩=some (.int .i64 pe18.1)∧W.cell? ⟨lb,lof + m17 * 2 + 1,none⟩=some (.int .i64 pe18.2)∧W.cell? ⟨lb,lof + m21 * 2,none⟩=some (.int .i64 pe22.1)∧W.cell? ⟨lb,lof + m21 * 2 + 1,none⟩=some (.int .i64 pe22.2):=by intro W h;obtain⟨hs,Bld,Blq,Blo,h7,h11,B1,Bb,Bc,Bd⟩:=(HP _).1 h;exact⟨B1,Bb,Bc,Bd⟩
    obtain⟨NE,HN⟩:∃NE:Nat→Prop,∀g,NE g↔(w3.heap.size≠g∧(w3.heap.size + 1)≠g∧w5.heap.size≠g∧lb≠g):=⟨_,fun _=>Iff.rfl⟩
    have HE:∀W,FP W→NE W.heap.size:=by intro W h;obtain⟨hs,Bld,Blq,Blo,h7,h11,B1,Bb,Bc,Bd⟩:=(HP _).1 h;exact (HN _).2 (⟨Nat.ne_of_lt Bld.lt,Nat.ne_of_lt Blq.lt,Nat.ne_of_lt Blo.lt,Nat.ne_of_lt (block_lt_of_cell B1)⟩)
    have HG:∀W W' g,FP W→Gr [g] W W'→aw W W'→w.heap.size≤g→NE g→FP W':=by intro W W' g h hG hk hg hn;obtain⟨hs,Bld,Blq,Blo,h7,h11,B1,Bb,Bc,Bd⟩:=(HP _).1 h;obtain⟨e_d,e_q,e_o,x0⟩:=(HN g).1 hn;exact (HP _).2 ⟨hs.trans (hG.below1 hs.size hg),hG.bx Bld (az e_d),hG.bx Blq (az e_q),hG.bx Blo (az e_o),h7.keep hk,h11.keep hk,hG.cell B1 (az x0),hG.cell Bb (az x0),hG.cell Bc (az x0),hG.cell Bd (az x0)⟩
    have F:FP w9:=(HP _).2 ⟨hs,Bld,Blq,Blo,h7,h11,B1,Bb,Bc,Bd⟩
    clear hs Bld Blq Blo h7 h11 B1 Bb Bc Bd
    have hH:=HC _ F
    refine U_td 0 78 hH ?_
    try simp only[LYp]
    try dsimp only[List.set]
    refine U_td 1 79 hH ?_
    try simp only[LYp]
    try dsimp only[List.set]
    refine U_td 2 80 hH ?_
    try simp only[LYp]
    try dsimp only[List.set]
    refine U_td 3 81 hH ?_
    try simp only[LYp]
    try dsimp only[List.set]
    refine U_td 4 82 hH ?_
    try simp only[LYp]
    try dsimp only[List.set]
    refine U_td 5 83 hH ?_
    try simp only[LYp]
    try dsimp only[List.set]
    refine U_td 6 84 hH ?_
    try simp only[LYp]
    try dsimp only[List.set]
    refine U_td 7 85 hH ?_
    try simp only[LYp]
    try dsimp only[List.set]
    refine U_td 8 86 hH ?_
    try simp only[LYp]
    try dsimp only[List.set]
    refine U_td 9 87 hH ?_
    try simp only[LYp]
    try dsimp only[List.set]
    refine U_td 10 88 hH ?_
    try simp only[LYp]
    try dsimp only[List.set]
    refine U_td 11 89 hH ?_
    try simp only[LYp]
    try dsimp only[List.set]
    refine U_td 12 90 hH ?_
    try simp only[LYp]
    try dsimp only[List.set]
    refine U_td 13 91 hH ?_
    try simp only[LYp]
    try dsimp only[List.set]
    refine U_td 14 92 hH ?_
    try simp only[LYp]
    try dsimp only[List.set]
    refine U_td 15 93 hH ?_
    try simp only[LYp]
    try dsimp only[List.set]
    refine U_td 16 94 hH ?_
    try simp only[LYp]
    try dsimp only[List.set]
    clear hH
    refine ks ?_
    intro X a0 HX HA
    have key3:∀(W:World) (g_p:Nat) (g_n:Nat),FP W→(w.heap.size≤g_p)→(NE g_p)→(Bx W g_p 24 #[.int .i64 0,.int .i64 0])→(w.heap.size≤g_n)→(NE g_n)→(Bx W g_n 24 #[.int .i64 0,.int .i64 0])→(g_p≠g_n)→X 2 (LB 21 524287) ((a0.put (some 16) (.pointer (some ⟨g_p,0,none⟩))).put (some 17) (.pointer (some ⟨g_n,0,none⟩))) W:=by as_aux_lemma=>
     intro W g_p g_n F sz_p ne_p Blp sz_n ne_n Bln m_p_n
     rw[←HX.out,←HA.out]
     try simp only[LYp]
     try dsimp only[List.set]
     refine Blp.k2fl fun Bo Bp fp Lp=>?_
     refine U_on 19 fun K hK=>?_
     go_simp
     generalize hW_:((W.setCell ⟨g_p,0,none⟩ (.int .i64 pe18.1)).setCell ⟨g_p,1,none⟩ (.int .i64 pe18.2))=w10
     have hW:=hW_.symm
     clear hW_
     have hG:Gr [g_p] W w10:=by rw[hW];exact (Gr.refl _ _).set.set
     have hk:=hG.keep ⟨⟨_,Blp.ty,by decide⟩,True.intro⟩
     replace Blp:Bx w10 (g_p) 24 #[.int .i64 pe18.1,.int .i64 pe18.2]:=by rw[hW];exact Blp.set2
     replace F:=HG _ _ _ F hG hk sz_p ne_p
     replace Bln:=hG.b1 Bln
     clear hW hG hk
     refine hK.out _ _ (HC _ F) (fun hH=>?_)
     clear hK K
     try simp only[LYp]
     try dsimp only[List.set]
     clear hH
     refine Bln.k2fl fun Bm Bn fn Ln=>?_
     refine dr (by kernel_rfl) rfl (by kernel_rfl) (fun K hK=>?_)
     go_simp
     refine hK.out _ _ ?_
     clear hK K
     intro w11 hW
     have hG:Gr [g_n] w10 w11:=by rw[hW];exact (Gr.refl _ _).set.set
     have hk:=hG.keep ⟨⟨_,Bln.ty,by decide⟩,True.intro⟩
     replace Bln:Bx w11 (g_n) 24 #[.int .i64 pe22.1,.int .i64 pe22.2]:=by rw[hW];exact Bln.set2
     replace F:=HG _ _ _ F hG hk sz_n ne_n
     replace Blp:=hG.b1 Blp
     clear hW hG hk
     obtain⟨hs,Bld,Blq,Blo,h7,h11,B1,Bb,Bc,Bd⟩:=(HP _).1 F
     try simp only[LYp]
     try dsimp only[List.set]
     obtain⟨e_d_p,e_q_p,e_o_p,x0_p⟩:=(HN _).1 ne_p
     obtain⟨e_d_n,e_q_n,e_o_n,x0_n⟩:=(HN _).1 ne_n
     clear HX HA HM HP HC HG HN HE
     go_wp2_with fail
     go_meet
     exact⟨g_p,g_n,rfl,rfl,(by first|exact sz_p|omega),(by omega),(by omega),(by omega),(by first|exact sz_n|omega),(by omega),(by omega),(by omega),(by omega),Blp,Bln,hs,Bld,Blq,Blo,h7,h11⟩
    replace key3:=ae key3
    have key2:∀(W:World) (g_n:Nat),FP W→(w.heap.size≤g_n)→(NE g_n)→(Bx W g_n 24 #[.int .i64 0,.int .i64 0])→X 3 (LB 21 393215) (a0.put (some 17) (.pointer (some ⟨g_n,0,none⟩))) W:=by as_aux_lemma=>
     intro W g_n F sz_n ne_n Bln
     rw[←HX.out,←HA.out]
     try simp only[LYp]
     try dsimp only[List.set]
     refine U_on 17 fun K hK=>?_
     go_simp
     refine aq ((HP _).1 F).1 (fun W1 hb Blp sz_p=>?_)
     have ne_p:=HE _ F
     have m_p_n:=Nat.ne_of_gt Bln.lt
     replace F:=HM _ _ F hb
     replace Bln:=Bln.mono hb
     clear hb
     refine hK.out _ _ (HC _ F) (fun hH=>?_)
     clear hK K
     try simp only[LYp]
     try dsimp only[List.set]
     have hkey:=key3.out W1 W.heap.size g_n F sz_p ne_p Blp sz_n ne_n Bln m_p_n
     rw[←HX.out,←HA.out] at hkey
     try simp only[LYp] at hkey
     try dsimp only[List.set] at hkey
     exact U_at (by kernel_rfl) (by kernel_rfl) hkey
    replace key2:=ae key2
    have key1:∀(W:World) (g_p:Nat),FP W→(w.heap.size≤g_p)→(NE g_p)→(Bx W g_p 24 #[.int .i64 0,.int .i64 0])→X 3 (LB 21 262143) (a0.put (some 16) (.pointer (some ⟨g_p,0,none⟩))) W:=by as_aux_lemma=>
     intro W g_p F sz_p ne_p Blp
     rw[←HX.out,←HA.out]
     try simp only[LYp]
     try dsimp only[List.set]
     refine U_on 18 fun K hK=>?_
     go_simp
     refine aq ((HP _).1 F).1 (fun W1 hb Bln sz_n=>?_)
     have ne_n:=HE _ F
     have m_p_n:=Nat.ne_of_lt Blp.lt
     replace F:=HM _ _ F hb
     replace Blp:=Blp.mono hb
     clear hb
     refine hK.out _ _ (HC _ F) (fun hH=>?_)
     clear hK K
     try simp only[LYp]
     try dsimp only[List.set]
     have hkey:=key3.out W1 g_p W.heap.size F sz_p ne_p Blp sz_n ne_n Bln m_p_n
     rw[←HX.out,←HA.out] at hkey
     try simp only[LYp] at hkey
     try dsimp only[List.set] at hkey
     exact U_at (by kernel_rfl) (by kernel_rfl) hkey
    replace key1:=ae key1
    have key0:∀(W:World),FP W→X 4 (LB 21 131071) a0 W:=by as_aux_lemma=>
     intro W F
     rw[←HX.out,←HA.out]
     try simp only[LYp]
     try dsimp only[List.set]
     refine dq (i:=17) (j:=18) (by kernel_rfl) rfl rfl  (fun K hK=>?_) (fun K hK=>?_)
     ·go_simp
      refine aq ((HP _).1 F).1 (fun W1 hb Blp sz_p=>?_)
      have ne_p:=HE _ F
      replace F:=HM _ _ F hb
      clear hb
      refine hK.out _ _ (HC _ F) (fun hH=>?_)
      clear hK K
      try simp only[LYp]
      try dsimp only[List.set]
      have hkey:=key1.out W1 W.heap.size F sz_p ne_p Blp
      rw[←HX.out,←HA.out] at hkey
      try simp only[LYp] at hkey
      try dsimp only[List.set] at hkey
      exact U_at (by kernel_rfl) (by kernel_rfl) hkey
     go_simp
     refine aq ((HP _).1 F).1 (fun W1 hb Bln sz_n=>?_)
     have ne_n:=HE _ F
     replace F:=HM _ _ F hb
     clear hb
     refine hK.out _ _ (HC _ F) (fun hH=>?_)
     clear hK K
     try simp only[LYp]
     try dsimp only[List.set]
     have hkey:=key2.out W1 W.heap.size F sz_n ne_n Bln
     rw[←HX.out,←HA.out] at hkey
     try simp only[LYp] at hkey
     try dsimp only[List.set] at hkey
     exact U_at (by kernel_rfl) (by kernel_rfl) hkey
    replace key0:=ae key0
    rw[←HX.out]
    have hkey:=key0.out w9 F
    rw[←HX.out] at hkey
    exact U_at (by kernel_rfl) (by kernel_rfl) hkey
   case rest=>
    clear hs B1 Bb Bc Bd Bld Blq Blo h7 h11
    obtain⟨gp,gn,rfl,rfl,hg_p,ng_p_d,ng_p_q,ng_p_o,hg_n,ng_n_d,ng_n_q,ng_n_o,ng_p_n,Blp,Bln,hs,Bld,Blq,Blo,h7,h11⟩:=hcut
    obtain⟨c,Hc⟩:∃z:Int,z=nt % 11:=⟨_,rfl⟩
    have AX23:Int.tmod nt 11=c:=by rw[Hc];exact Int.tmod_eq_emod_of_nonneg (by omega)
    have c0:0≤c:=by omega
    have c1:c≤10:=by omega
    clear Hc
    have HSF:=ae (szD (n:=c) (d:=10) (Wn.lit (by omega) (by omega)) (Wn.lit (by decide) (by decide)) (by decide))
    go_wp2_with fail
    with_reducible refine (p_New_calls c 10 _ (by omega) (by omega) (by decide) (by decide) (by decide)).mono ?_
    rintro e w9 ⟨_,rfl,h24,hb⟩
    obtain⟨sh24,ah24,nh24,ch24,Ah24,Nh24,Ch24,rfl⟩:=h24.shape
    revert h11;revert h7;revert Blo;revert Blq;revert Bld;revert Bln;revert Blp;refine mS hs hb ?_;clear hs hb;intro hs Blp Bln Bld Blq Blo h7 h11
    go_upto_region 10 with fail
    refine Code.abs ?_
    intro w10 hW
    have hG:Gr [] w9 w10:=by rw[hW];exact (Gr.refl _ _).alloc
    have sz_w10:=hs.size
    have nd_w10:=Bld.lt
    have nq_w10:=Blq.lt
    have no_w10:=Blo.lt
    have np_w10:=Blp.lt
    have nn_w10:=Bln.lt
    have B0:Bx w10 (w9.heap.size) 37 #[.bool sh24,.slice ah24 nh24 ch24,.slice Ah24 Nh24 Ch24]:=by rw[hW];exact (Bx.new0 _ _ _)
    replace hs:=hs.trans (hG.below0 hs.size)
    revert h24 Blp Bln Bld Blq Blo h7 h11;refine g0 hG ?_;intro h24 Blp Bln Bld Blq Blo h7 h11
    clear hW hG
    have hz_w10:=B0.lt
    have AX26:IntKind.i64.wrap (pe22.1 - pe18.1)=pe22.1 - pe18.1:=Wn.wsub Bpe22.1 Bpe18.1 (by decide)
    go_cut [20] (fun kv0 wz=>∃gx sh31 ah31 nh31 ch31 Ah31 Nh31 Ch31,kv0=.pointer (some ⟨gx,0,none⟩)∧w.heap.size≤gx∧gx≠w3.heap.size∧gx≠(w3.heap.size + 1)∧gx≠w5.heap.size∧gx≠gp∧gx≠gn∧gx≠w9.heap.size∧Bx wz gx 37 #[.bool sh31,.slice ah31 nh31 ch31,.slice Ah31 Nh31 Ch31]∧Below w.heap.size w wz∧Bx wz (w3.heap.size) 37 #[.bool sh7,.slice ah7 nh7 ch7,.slice Ah7 Nh7 Ch7]∧Bx wz (w3.heap.size + 1) 24 #[.int .i64 pe10.1,.int .i64 pe10.2]∧Bx wz (w5.heap.size) 37 #[.bool sh11,.slice ah11 nh11 ch11,.slice Ah11 Nh11 Ch11]∧Bx wz (gp) 24 #[.int .i64 pe18.1,.int .i64 pe18.2]∧Bx wz (gn) 24 #[.int .i64 pe22.1,.int .i64 pe22.2]∧Bx wz (w9.heap.size) 37 #[.bool sh24,.slice ah24 nh24 ch24,.slice Ah24 Nh24 Ch24]∧PV wz (.agg #[.bool sh7,.slice ah7 nh7 ch7,.slice Ah7 Nh7 Ch7]) (apZ l mm)∧PV wz (.agg #[.bool sh11,.slice ah11 nh11 ch11,.slice Ah11 Nh11 Ch11]) (dsE l pe10)∧PV wz (.agg #[.bool sh24,.slice ah24 nh24 ch24,.slice Ah24 Nh24 Ch24]) (((c:Int):Rat) / ((10:Int):Rat))∧PV wz (.agg #[.bool sh31,.slice ah31 nh31 ch31,.slice Ah31 Nh31 Ch31]) (((((pe18.1:Int):Rat)) + ((((c:Int):Rat) / ((10:Int):Rat)) * (((pe22.1 - pe18.1:Int):Rat)))) - (((pe10.1:Int):Rat))))
    case first=>
     refine bw (S:=fun w'=>w'.cell? ⟨gp,0,none⟩=some (.int .i64 pe18.1)∧w'.cell? ⟨gp,1,none⟩=some (.int .i64 pe18.2)∧w'.cell? ⟨w9.heap.size,0,none⟩=some (.bool sh24)∧w'.cell? ⟨w9.heap.size,1,none⟩=some (.slice ah24 nh24 ch24)∧w'.cell? ⟨w9.heap.size,2,none⟩=some (.slice Ah24 Nh24 Ch24)∧w'.cell? ⟨gn,0,none⟩=some (.int .i64 pe22.1)∧w'.cell? ⟨gn,1,none⟩=some (.int .i64 pe22.2)∧w'.cell? ⟨w3.heap.size + 1,0,none⟩=some (.int .i64 pe10.1)∧w'.cell? ⟨w3.heap.size + 1,1,none⟩=some (.int .i64 pe10.2)) (by kernel_rfl) 17 ?_
     refine cq.abs ?_
     intro w11 hW
     have hb:Below w10.heap.size w10 w11:=by rw[hW];exact de _
     replace hs:=ar hs hb
     revert B0 h24 Blp Bln Bld Blq Blo h7 h11;refine mo hb ?_;intro B0 h24 Blp Bln Bld Blq Blo h7 h11
     clear hb hW
     obtain⟨FP,HP⟩:∃FP:World→Prop,∀W,FP W↔(Below w.heap.size w W∧Bx W (w3.heap.size) 37 #[.bool sh7,.slice ah7 nh7 ch7,.slice Ah7 Nh7 Ch7]∧Bx W (w3.heap.size + 1) 24 #[.int .i64 pe10.1,.int .i64 pe10.2]∧Bx W (w5.heap.size) 37 #[.bool sh11,.slice ah11 nh11 ch11,.slice Ah11 Nh11 Ch11]∧Bx W (gp) 24 #[.int .i64 pe18.1,.int .i64 pe18.2]∧Bx W (gn) 24 #[.int .i64 pe22.1,.int .i64 pe22.2]∧Bx W (w9.heap.size) 37 #[.bool sh24,.slice ah24 nh24 ch24,.slice Ah24 Nh24 Ch24]∧PV W (.agg #[.bool sh7,.slice ah7 nh7 ch7,.slice Ah7 Nh7 Ch7]) (apZ l mm)∧PV W (.agg #[.bool sh11,.slice ah11 nh11 ch11,.slice Ah11 Nh11 Ch11]) (dsE l pe10)∧PV W (.agg #[.bool sh24,.slice ah24 nh24 ch24,.slice Ah24 Nh24 Ch24]) (((c:Int):Rat) / ((10:Int):Rat))):=⟨_,fun _=>Iff.rfl⟩
     have HM:∀W W',FP W→Below W.heap.size W W'→FP W':=by intro W W' h hb;obtain⟨hs,Bld,Blq,Blo,Blp,Bln,B0,h7,h11,h24⟩:=(HP _).1 h;exact (HP _).2 ⟨ar hs hb,Bld.mono hb,Blq.mono hb,Blo.mono hb,Blp.mono hb,Bln.mono hb,B0.mono hb,h7.mono hb,h11.mono hb,h24.mono hb⟩
     have HC:∀W,FP W→W.cell? ⟨gp,0,none⟩=some (.int .i64 pe18.1)∧W.cell? ⟨gp,1,none⟩=some (.int .i64 pe18.2)∧W.cell? ⟨w9.heap.size,0,none⟩=some (.bool sh24)∧W.cell? ⟨w9.heap.size,1,none⟩=some (.slice ah24 nh24 ch24)∧W.cell? ⟨w9.heap.size,2,none⟩=some (.slice Ah24 Nh24 Ch24)∧W.cell? ⟨gn,0,none⟩=some (.int .i64 pe22.1)∧W.cell? ⟨gn,1,none⟩=some (.int .i64 pe22.2)∧W.cell? ⟨w3.heap.size + 1,0,none⟩=some (.int .i64 pe10.1)∧W.cell? ⟨w3.heap.size + 1,1,none⟩=some (.int .i64 pe10.2):=by intro W h;obtain⟨hs,Bld,Blq,Blo,Blp,Bln,B0,h7,h11,h24⟩:=(HP _).1 h;exact⟨Blp.at 0 rfl,Blp.at 1 rfl,B0.at 0 rfl,B0.at 1 rfl,B0.at 2 rfl,Bln.at 0 rfl,Bln.at 1 rfl,Blq.at 0 rfl,Blq.at 1 rfl⟩
     obtain⟨NE,HN⟩:∃NE:Nat→Prop,∀g,NE g↔(w3.heap.size≠g∧(w3.heap.size + 1)≠g∧w5.heap.size≠g∧gp≠g∧gn≠g∧w9.heap.size≠g):=⟨_,fun _=>Iff.rfl⟩
     have HE:∀W,FP W→NE W.heap.size:=by intro W h;obtain⟨hs,Bld,Blq,Blo,Blp,Bln,B0,h7,h11,h24⟩:=(HP _).1 h;exact (HN _).2 (⟨Nat.ne_of_lt Bld.lt,Nat.ne_of_lt Blq.lt,Nat.ne_of_lt Blo.lt,Nat.ne_of_lt Blp.lt,Nat.ne_of_lt Bln.lt,Nat.ne_of_lt B0.lt⟩)
     have HG:∀W W' g,FP W→Gr [g] W W'→aw W W'→w.heap.size≤g→NE g→FP W':=by intro W W' g h hG hk hg hn;obtain⟨hs,Bld,Blq,Blo,Blp,Bln,B0,h7,h11,h24⟩:=(HP _).1 h;obtain⟨e_d,e_q,e_o,e_p,e_n,e_part⟩:=(HN g).1 hn;exact (HP _).2 ⟨hs.trans (hG.below1 hs.size hg),hG.bx Bld (az e_d),hG.bx Blq (az e_q),hG.bx Blo (az e_o),hG.bx Blp (az e_p),hG.bx Bln (az e_n),hG.bx B0 (az e_part),h7.keep hk,h11.keep hk,h24.keep hk⟩
     have F:FP w11:=(HP _).2 ⟨hs,Bld,Blq,Blo,Blp,Bln,B0,h7,h11,h24⟩
     clear hs Bld Blq Blo Blp Bln B0 h7 h11 h24
     have hH:=HC _ F
     refine U_td 0 102 hH ?_
     try simp only[LYp]
     try dsimp only[List.set]
     refine U_td 1 103 hH ?_
     try simp only[LYp]
     try dsimp only[List.set]
     refine U_td 3 105 hH ?_
     try simp only[LYp]
     try dsimp only[List.set]
     refine U_td 4 106 hH ?_
     try simp only[LYp]
     try dsimp only[List.set]
     refine U_td 5 107 hH ?_
     try simp only[LYp]
     try dsimp only[List.set]
     refine U_td 6 108 hH ?_
     try simp only[LYp]
     try dsimp only[List.set]
     refine U_td 7 109 hH ?_
     try simp only[LYp]
     try dsimp only[List.set]
     refine U_td 8 110 hH ?_
     try simp only[LYp]
     try dsimp only[List.set]
     refine U_td 12 114 hH ?_
     try simp only[LYp]
     try dsimp only[List.set]
     refine U_td 13 115 hH ?_
     try simp only[LYp]
     try dsimp only[List.set]
     clear hH
     refine ks ?_
     intro X a0 HX HA
     have key13:∀(W:World) (g_x:Nat) (uh25:Value) (uh27:Value) (uh28:Value) (uh29:Value) (uh30:Value) (uh31:Value),FP W→(w.heap.size≤g_x)→(NE g_x)→(Bx W g_x 37 #[.bool false,.slice none 0 0,.slice none 0 0])→(PV W uh31 (((((pe18.1:Int):Rat)) + ((((c:Int):Rat) / ((10:Int):Rat)) * (((pe22.1 - pe18.1:Int):Rat)))) - (((pe10.1:Int):Rat))))→X 1 (LB 18 131071) (((((((a0.put (some 104) (uh25)).put (some 111) (uh27)).put (some 112) (uh28)).put (some 113) (uh29)).put (some 116) (uh30)).put (some 117) (uh31)).put (some 20) (.pointer (some ⟨g_x,0,none⟩))) W:=by as_aux_lemma=>
      intro W g_x uh25 uh27 uh28 uh29 uh30 uh31 F sz_x ne_x Blx h31
      rw[←HX.out,←HA.out]
      try simp only[LYp]
      try dsimp only[List.set]
      obtain⟨sh31,ah31,nh31,ch31,Ah31,Nh31,Ch31,rfl⟩:=h31.shape
      refine Blx.k3fl fun B5 B6 B7 fx Lx=>?_
      refine dr (by kernel_rfl) rfl (by kernel_rfl) (fun K hK=>?_)
      go_simp
      refine hK.out _ _ ?_
      clear hK K
      intro w12 hW
      have hG:Gr [g_x] W w12:=by rw[hW];exact (Gr.refl _ _).set.set.set
      have hk:=hG.keep ⟨⟨_,Blx.ty,by decide⟩,True.intro⟩
      replace Blx:Bx w12 (g_x) 37 #[.bool sh31,.slice ah31 nh31 ch31,.slice Ah31 Nh31 Ch31]:=by rw[hW];exact Blx.set3
      replace F:=HG _ _ _ F hG hk sz_x ne_x
      replace h31:=h31.keep hk
      clear hW hG hk
      obtain⟨hs,Bld,Blq,Blo,Blp,Bln,B0,h7,h11,h24⟩:=(HP _).1 F
      try simp only[LYp]
      try dsimp only[List.set]
      obtain⟨e_d_x,e_q_x,e_o_x,e_p_x,e_n_x,e_part_x⟩:=(HN _).1 ne_x
      clear HX HA HM HP HC HG HN HE
      go_wp2_with fail
      go_meet
      exact⟨g_x,_,_,_,_,_,_,_,rfl,(by first|exact sz_x|omega),(by omega),(by omega),(by omega),(by omega),(by omega),(by omega),Blx,hs,Bld,Blq,Blo,Blp,Bln,B0,h7,h11,h24,h31⟩
     replace key13:=ae key13
     have key12:∀(W:World) (g_x:Nat) (uh25:Value) (uh27:Value) (uh28:Value) (uh29:Value) (uh30:Value),FP W→(w.heap.size≤g_x)→(NE g_x)→(Bx W g_x 37 #[.bool false,.slice none 0 0,.slice none 0 0])→(PV W uh29 ((((pe18.1:Int):Rat)) + ((((c:Int):Rat) / ((10:Int):Rat)) * (((pe22.1 - pe18.1:Int):Rat)))))→(PV W uh30 (((pe10.1:Int):Rat)))→X 2 (LB 18 98303) ((((((a0.put (some 104) (uh25)).put (some 111) (uh27)).put (some 112) (uh28)).put (some 113) (uh29)).put (some 116) (uh30)).put (some 20) (.pointer (some ⟨g_x,0,none⟩))) W:=by as_aux_lemma=>
      intro W g_x uh25 uh27 uh28 uh29 uh30 F sz_x ne_x Blx h29 h30
      rw[←HX.out,←HA.out]
      try simp only[LYp]
      try dsimp only[List.set]
      refine U_on 15 fun K hK=>?_
      obtain⟨hs,Bld,Blq,Blo,Blp,Bln,B0,h7,h11,h24⟩:=(HP _).1 F
      go_simp
      (with_reducible refine (pSub h29 h30 (SzQ.fit (SzQ.add (szN (Bpe18.1.mono (by decide))) (SzQ.mul HSF.out (szN ((Wn.sub Bpe22.1 Bpe18.1).mono (by decide)))))) (SzQ.fit (szN (Bpe10.1.mono (by decide))))).mono ?_)
      rintro e W1 ⟨uh31,rfl,h31,hb⟩
      replace F:=HM _ _ F hb
      revert Blx h29 h30;refine mo hb ?_;intro Blx h29 h30
      clear hb hs Bld Blq Blo Blp Bln B0 h7 h11 h24
      try go_wp2_with fail
      refine hK.out _ _ (HC _ F) (fun hH=>?_)
      clear hK K
      try simp only[LYp]
      try dsimp only[List.set]
      have hkey:=key13.out W1 g_x uh25 uh27 uh28 uh29 uh30 uh31 F sz_x ne_x Blx h31
      rw[←HX.out,←HA.out] at hkey
      try simp only[LYp] at hkey
      try dsimp only[List.set] at hkey
      exact U_at (by kernel_rfl) (by kernel_rfl) hkey
     replace key12:=ae key12
     have key11:∀(W:World) (uh25:Value) (uh27:Value) (uh28:Value) (uh29:Value) (uh30:Value) (uh31:Value),FP W→(PV W uh31 (((((pe18.1:Int):Rat)) + ((((c:Int):Rat) / ((10:Int):Rat)) * (((pe22.1 - pe18.1:Int):Rat)))) - (((pe10.1:Int):Rat))))→X 2 (LB 18 65535) ((((((a0.put (some 104) (uh25)).put (some 111) (uh27)).put (some 112) (uh28)).put (some 113) (uh29)).put (some 116) (uh30)).put (some 117) (uh31)) W:=by as_aux_lemma=>
      intro W uh25 uh27 uh28 uh29 uh30 uh31 F h31
      rw[←HX.out,←HA.out]
      try simp only[LYp]
      try dsimp only[List.set]
      refine U_on 16 fun K hK=>?_
      go_simp
      refine aq ((HP _).1 F).1 (fun W1 hb Blx sz_x=>?_)
      have ne_x:=HE _ F
      replace F:=HM _ _ F hb
      replace h31:=h31.mono hb
      clear hb
      refine hK.out _ _ (HC _ F) (fun hH=>?_)
      clear hK K
      try simp only[LYp]
      try dsimp only[List.set]
      have hkey:=key13.out W1 W.heap.size uh25 uh27 uh28 uh29 uh30 uh31 F sz_x ne_x Blx h31
      rw[←HX.out,←HA.out] at hkey
      try simp only[LYp] at hkey
      try dsimp only[List.set] at hkey
      exact U_at (by kernel_rfl) (by kernel_rfl) hkey
     replace key11:=ae key11
     have key10:∀(W:World) (g_x:Nat) (uh25:Value) (uh27:Value) (uh28:Value) (uh29:Value),FP W→(w.heap.size≤g_x)→(NE g_x)→(Bx W g_x 37 #[.bool false,.slice none 0 0,.slice none 0 0])→(PV W uh29 ((((pe18.1:Int):Rat)) + ((((c:Int):Rat) / ((10:Int):Rat)) * (((pe22.1 - pe18.1:Int):Rat)))))→X 3 (LB 18 81919) (((((a0.put (some 104) (uh25)).put (some 111) (uh27)).put (some 112) (uh28)).put (some 113) (uh29)).put (some 20) (.pointer (some ⟨g_x,0,none⟩))) W:=by as_aux_lemma=>
      intro W g_x uh25 uh27 uh28 uh29 F sz_x ne_x Blx h29
      rw[←HX.out,←HA.out]
      try simp only[LYp]
      try dsimp only[List.set]
      refine U_on 14 fun K hK=>?_
      obtain⟨hs,Bld,Blq,Blo,Blp,Bln,B0,h7,h11,h24⟩:=(HP _).1 F
      go_simp
      (with_reducible refine (l2_whole pe10.1 _ (Bpe10.1.mono (by decide))).mono ?_)
      rintro e W1 ⟨uh30,rfl,h30,hb⟩
      replace F:=HM _ _ F hb
      revert Blx h29;refine mo hb ?_;intro Blx h29
      clear hb hs Bld Blq Blo Blp Bln B0 h7 h11 h24
      try go_wp2_with fail
      refine hK.out _ _ (HC _ F) (fun hH=>?_)
      clear hK K
      try simp only[LYp]
      try dsimp only[List.set]
      have hkey:=key12.out W1 g_x uh25 uh27 uh28 uh29 uh30 F sz_x ne_x Blx h29 h30
      rw[←HX.out,←HA.out] at hkey
      try simp only[LYp] at hkey
      try dsimp only[List.set] at hkey
      exact U_at (by kernel_rfl) (by kernel_rfl) hkey
     replace key10:=ae key10
     have key9:∀(W:World) (uh25:Value) (uh27:Value) (uh28:Value) (uh29:Value) (uh30:Value),FP W→(PV W uh29 ((((pe18.1:Int):Rat)) + ((((c:Int):Rat) / ((10:Int):Rat)) * (((pe22.1 - pe18.1:Int):Rat)))))→(PV W uh30 (((pe10.1:Int):Rat)))→X 3 (LB 18 32767) (((((a0.put (some 104) (uh25)).put (some 111) (uh27)).put (some 112) (uh28)).put (some 113) (uh29)).put (some 116) (uh30)) W:=by as_aux_lemma=>
      intro W uh25 uh27 uh28 uh29 uh30 F h29 h30
      rw[←HX.out,←HA.out]
      try simp only[LYp]
      try dsimp only[List.set]
      refine dq (i:=15) (j:=16) (by kernel_rfl) rfl rfl  (fun K hK=>?_) (fun K hK=>?_)
      ·obtain⟨hs,Bld,Blq,Blo,Blp,Bln,B0,h7,h11,h24⟩:=(HP _).1 F
       go_simp
       (with_reducible refine (pSub h29 h30 (SzQ.fit (SzQ.add (szN (Bpe18.1.mono (by decide))) (SzQ.mul HSF.out (szN ((Wn.sub Bpe22.1 Bpe18.1).mono (by decide)))))) (SzQ.fit (szN (Bpe10.1.mono (by decide))))).mono ?_)
       rintro e W1 ⟨uh31,rfl,h31,hb⟩
       replace F:=HM _ _ F hb
       revert h29 h30;refine mo hb ?_;intro h29 h30
       clear hb hs Bld Blq Blo Blp Bln B0 h7 h11 h24
       try go_wp2_with fail
       refine hK.out _ _ (HC _ F) (fun hH=>?_)
       clear hK K
       try simp only[LYp]
       try dsimp only[List.set]
       have hkey:=key11.out W1 uh25 uh27 uh28 uh29 uh30 uh31 F h31
       rw[←HX.out,←HA.out] at hkey
       try simp only[LYp] at hkey
       try dsimp only[List.set] at hkey
       exact U_at (by kernel_rfl) (by kernel_rfl) hkey
      go_simp
      refine aq ((HP _).1 F).1 (fun W1 hb Blx sz_x=>?_)
      have ne_x:=HE _ F
      replace F:=HM _ _ F hb
      revert h29 h30;refine mo hb ?_;intro h29 h30
      clear hb
      refine hK.out _ _ (HC _ F) (fun hH=>?_)
      clear hK K
      try simp only[LYp]
      try dsimp only[List.set]
      have hkey:=key12.out W1 W.heap.size uh25 uh27 uh28 uh29 uh30 F sz_x ne_x Blx h29 h30
      rw[←HX.out,←HA.out] at hkey
      try simp only[LYp] at hkey
      try dsimp only[List.set] at hkey
      exact U_at (by kernel_rfl) (by kernel_rfl) hkey
     replace key9:=ae key9
     have key8:∀(W:World) (g_x:Nat) (uh25:Value) (uh27:Value) (uh28:Value),FP W→(w.heap.size≤g_x)→(NE g_x)→(Bx W g_x 37 #[.bool false,.slice none 0 0,.slice none 0 0])→(PV W uh25 (((pe18.1:Int):Rat)))→(PV W uh28 ((((c:Int):Rat) / ((10:Int):Rat)) * (((pe22.1 - pe18.1:Int):Rat))))→X 4 (LB 18 79871) ((((a0.put (some 104) (uh25)).put (some 111) (uh27)).put (some 112) (uh28)).put (some 20) (.pointer (some ⟨g_x,0,none⟩))) W:=by as_aux_lemma=>
      intro W g_x uh25 uh27 uh28 F sz_x ne_x Blx h25 h28
      rw[←HX.out,←HA.out]
      try simp only[LYp]
      try dsimp only[List.set]
      refine U_on 11 fun K hK=>?_
      obtain⟨hs,Bld,Blq,Blo,Blp,Bln,B0,h7,h11,h24⟩:=(HP _).1 F
      go_simp
      (with_reducible refine (yi h25 h28 (SzQ.fit (szN (Bpe18.1.mono (by decide)))) (SzQ.fit (SzQ.mul HSF.out (szN ((Wn.sub Bpe22.1 Bpe18.1).mono (by decide)))))).mono ?_)
      rintro e W1 ⟨uh29,rfl,h29,hb⟩
      replace F:=HM _ _ F hb
      revert Blx h25 h28;refine mo hb ?_;intro Blx h25 h28
      clear hb hs Bld Blq Blo Blp Bln B0 h7 h11 h24
      try go_wp2_with fail
      refine hK.out _ _ (HC _ F) (fun hH=>?_)
      clear hK K
      try simp only[LYp]
      try dsimp only[List.set]
      have hkey:=key10.out W1 g_x uh25 uh27 uh28 uh29 F sz_x ne_x Blx h29
      rw[←HX.out,←HA.out] at hkey
      try simp only[LYp] at hkey
      try dsimp only[List.set] at hkey
      exact U_at (by kernel_rfl) (by kernel_rfl) hkey
     replace key8:=ae key8
     have key7:∀(W:World) (uh25:Value) (uh27:Value) (uh28:Value) (uh29:Value),FP W→(PV W uh29 ((((pe18.1:Int):Rat)) + ((((c:Int):Rat) / ((10:Int):Rat)) * (((pe22.1 - pe18.1:Int):Rat)))))→X 4 (LB 18 16383) ((((a0.put (some 104) (uh25)).put (some 111) (uh27)).put (some 112) (uh28)).put (some 113) (uh29)) W:=by as_aux_lemma=>
      intro W uh25 uh27 uh28 uh29 F h29
      rw[←HX.out,←HA.out]
      try simp only[LYp]
      try dsimp only[List.set]
      refine dq (i:=14) (j:=16) (by kernel_rfl) rfl rfl  (fun K hK=>?_) (fun K hK=>?_)
      ·obtain⟨hs,Bld,Blq,Blo,Blp,Bln,B0,h7,h11,h24⟩:=(HP _).1 F
       go_simp
       (with_reducible refine (l2_whole pe10.1 _ (Bpe10.1.mono (by decide))).mono ?_)
       rintro e W1 ⟨uh30,rfl,h30,hb⟩
       replace F:=HM _ _ F hb
       replace h29:=h29.mono hb
       clear hb hs Bld Blq Blo Blp Bln B0 h7 h11 h24
       try go_wp2_with fail
       refine hK.out _ _ (HC _ F) (fun hH=>?_)
       clear hK K
       try simp only[LYp]
       try dsimp only[List.set]
       have hkey:=key9.out W1 uh25 uh27 uh28 uh29 uh30 F h29 h30
       rw[←HX.out,←HA.out] at hkey
       try simp only[LYp] at hkey
       try dsimp only[List.set] at hkey
       exact U_at (by kernel_rfl) (by kernel_rfl) hkey
      go_simp
      refine aq ((HP _).1 F).1 (fun W1 hb Blx sz_x=>?_)
      have ne_x:=HE _ F
      replace F:=HM _ _ F hb
      replace h29:=h29.mono hb
      clear hb
      refine hK.out _ _ (HC _ F) (fun hH=>?_)
      clear hK K
      try simp only[LYp]
      try dsimp only[List.set]
      have hkey:=key10.out W1 W.heap.size uh25 uh27 uh28 uh29 F sz_x ne_x Blx h29
      rw[←HX.out,←HA.out] at hkey
      try simp only[LYp] at hkey
      try dsimp only[List.set] at hkey
      exact U_at (by kernel_rfl) (by kernel_rfl) hkey
     replace key7:=ae key7
     have key6:∀(W:World) (g_x:Nat) (uh25:Value) (uh27:Value),FP W→(w.heap.size≤g_x)→(NE g_x)→(Bx W g_x 37 #[.bool false,.slice none 0 0,.slice none 0 0])→(PV W uh25 (((pe18.1:Int):Rat)))→(PV W uh27 (((pe22.1 - pe18.1:Int):Rat)))→X 5 (LB 18 78847) (((a0.put (some 104) (uh25)).put (some 111) (uh27)).put (some 20) (.pointer (some ⟨g_x,0,none⟩))) W:=by as_aux_lemma=>
      intro W g_x uh25 uh27 F sz_x ne_x Blx h25 h27
      rw[←HX.out,←HA.out]
      try simp only[LYp]
      try dsimp only[List.set]
      refine U_on 10 fun K hK=>?_
      obtain⟨hs,Bld,Blq,Blo,Blp,Bln,B0,h7,h11,h24⟩:=(HP _).1 F
      go_simp
      (with_reducible refine (pMul h24 h27 (SzQ.fit HSF.out) (SzQ.fit (szN ((Wn.sub Bpe22.1 Bpe18.1).mono (by decide))))).mono ?_)
      rintro e W1 ⟨uh28,rfl,h28,hb⟩
      replace F:=HM _ _ F hb
      revert Blx h25 h27;refine mo hb ?_;intro Blx h25 h27
      clear hb hs Bld Blq Blo Blp Bln B0 h7 h11 h24
      try go_wp2_with fail
      refine hK.out _ _ (HC _ F) (fun hH=>?_)
      clear hK K
      try simp only[LYp]
      try dsimp only[List.set]
      have hkey:=key8.out W1 g_x uh25 uh27 uh28 F sz_x ne_x Blx h25 h28
      rw[←HX.out,←HA.out] at hkey
      try simp only[LYp] at hkey
      try dsimp only[List.set] at hkey
      exact U_at (by kernel_rfl) (by kernel_rfl) hkey
     replace key6:=ae key6
     have key5:∀(W:World) (uh25:Value) (uh27:Value) (uh28:Value),FP W→(PV W uh25 (((pe18.1:Int):Rat)))→(PV W uh28 ((((c:Int):Rat) / ((10:Int):Rat)) * (((pe22.1 - pe18.1:Int):Rat))))→X 5 (LB 18 14335) (((a0.put (some 104) (uh25)).put (some 111) (uh27)).put (some 112) (uh28)) W:=by as_aux_lemma=>
      intro W uh25 uh27 uh28 F h25 h28
      rw[←HX.out,←HA.out]
      try simp only[LYp]
      try dsimp only[List.set]
      refine dq (i:=11) (j:=16) (by kernel_rfl) rfl rfl  (fun K hK=>?_) (fun K hK=>?_)
      ·obtain⟨hs,Bld,Blq,Blo,Blp,Bln,B0,h7,h11,h24⟩:=(HP _).1 F
       go_simp
       (with_reducible refine (yi h25 h28 (SzQ.fit (szN (Bpe18.1.mono (by decide)))) (SzQ.fit (SzQ.mul HSF.out (szN ((Wn.sub Bpe22.1 Bpe18.1).mono (by decide)))))).mono ?_)
       rintro e W1 ⟨uh29,rfl,h29,hb⟩
       replace F:=HM _ _ F hb
       revert h25 h28;refine mo hb ?_;intro h25 h28
       clear hb hs Bld Blq Blo Blp Bln B0 h7 h11 h24
       try go_wp2_with fail
       refine hK.out _ _ (HC _ F) (fun hH=>?_)
       clear hK K
       try simp only[LYp]
       try dsimp only[List.set]
       have hkey:=key7.out W1 uh25 uh27 uh28 uh29 F h29
       rw[←HX.out,←HA.out] at hkey
       try simp only[LYp] at hkey
       try dsimp only[List.set] at hkey
       exact U_at (by kernel_rfl) (by kernel_rfl) hkey
      go_simp
      refine aq ((HP _).1 F).1 (fun W1 hb Blx sz_x=>?_)
      have ne_x:=HE _ F
      replace F:=HM _ _ F hb
      revert h25 h28;refine mo hb ?_;intro h25 h28
      clear hb
      refine hK.out _ _ (HC _ F) (fun hH=>?_)
      clear hK K
      try simp only[LYp]
      try dsimp only[List.set]
      have hkey:=key8.out W1 W.heap.size uh25 uh27 uh28 F sz_x ne_x Blx h25 h28
      rw[←HX.out,←HA.out] at hkey
      try simp only[LYp] at hkey
      try dsimp only[List.set] at hkey
      exact U_at (by kernel_rfl) (by kernel_rfl) hkey
     replace key5:=ae key5
     have key4:∀(W:World) (g_x:Nat) (uh25:Value),FP W→(w.heap.size≤g_x)→(NE g_x)→(Bx W g_x 37 #[.bool false,.slice none 0 0,.slice none 0 0])→(PV W uh25 (((pe18.1:Int):Rat)))→X 6 (LB 18 78335) ((a0.put (some 104) (uh25)).put (some 20) (.pointer (some ⟨g_x,0,none⟩))) W:=by as_aux_lemma=>
      intro W g_x uh25 F sz_x ne_x Blx h25
      rw[←HX.out,←HA.out]
      try simp only[LYp]
      try dsimp only[List.set]
      refine U_on 9 fun K hK=>?_
      obtain⟨hs,Bld,Blq,Blo,Blp,Bln,B0,h7,h11,h24⟩:=(HP _).1 F
      go_simp
      (with_reducible refine (l2_whole (pe22.1 - pe18.1) _ ((Wn.sub Bpe22.1 Bpe18.1).mono (by decide))).mono ?_)
      rintro e W1 ⟨uh27,rfl,h27,hb⟩
      replace F:=HM _ _ F hb
      revert Blx h25;refine mo hb ?_;intro Blx h25
      clear hb hs Bld Blq Blo Blp Bln B0 h7 h11 h24
      try go_wp2_with fail
      refine hK.out _ _ (HC _ F) (fun hH=>?_)
      clear hK K
      try simp only[LYp]
      try dsimp only[List.set]
      have hkey:=key6.out W1 g_x uh25 uh27 F sz_x ne_x Blx h25 h27
      rw[←HX.out,←HA.out] at hkey
      try simp only[LYp] at hkey
      try dsimp only[List.set] at hkey
      exact U_at (by kernel_rfl) (by kernel_rfl) hkey
     replace key4:=ae key4
     have key3:∀(W:World) (uh25:Value) (uh27:Value),FP W→(PV W uh25 (((pe18.1:Int):Rat)))→(PV W uh27 (((pe22.1 - pe18.1:Int):Rat)))→X 6 (LB 18 13311) ((a0.put (some 104) (uh25)).put (some 111) (uh27)) W:=by as_aux_lemma=>
      intro W uh25 uh27 F h25 h27
      rw[←HX.out,←HA.out]
      try simp only[LYp]
      try dsimp only[List.set]
      refine dq (i:=10) (j:=16) (by kernel_rfl) rfl rfl  (fun K hK=>?_) (fun K hK=>?_)
      ·obtain⟨hs,Bld,Blq,Blo,Blp,Bln,B0,h7,h11,h24⟩:=(HP _).1 F
       go_simp
       (with_reducible refine (pMul h24 h27 (SzQ.fit HSF.out) (SzQ.fit (szN ((Wn.sub Bpe22.1 Bpe18.1).mono (by decide))))).mono ?_)
       rintro e W1 ⟨uh28,rfl,h28,hb⟩
       replace F:=HM _ _ F hb
       revert h25 h27;refine mo hb ?_;intro h25 h27
       clear hb hs Bld Blq Blo Blp Bln B0 h7 h11 h24
       try go_wp2_with fail
       refine hK.out _ _ (HC _ F) (fun hH=>?_)
       clear hK K
       try simp only[LYp]
       try dsimp only[List.set]
       have hkey:=key5.out W1 uh25 uh27 uh28 F h25 h28
       rw[←HX.out,←HA.out] at hkey
       try simp only[LYp] at hkey
       try dsimp only[List.set] at hkey
       exact U_at (by kernel_rfl) (by kernel_rfl) hkey
      go_simp
      refine aq ((HP _).1 F).1 (fun W1 hb Blx sz_x=>?_)
      have ne_x:=HE _ F
      replace F:=HM _ _ F hb
      revert h25 h27;refine mo hb ?_;intro h25 h27
      clear hb
      refine hK.out _ _ (HC _ F) (fun hH=>?_)
      clear hK K
      try simp only[LYp]
      try dsimp only[List.set]
      have hkey:=key6.out W1 W.heap.size uh25 uh27 F sz_x ne_x Blx h25 h27
      rw[←HX.out,←HA.out] at hkey
      try simp only[LYp] at hkey
      try dsimp only[List.set] at hkey
      exact U_at (by kernel_rfl) (by kernel_rfl) hkey
     replace key3:=ae key3
     have key2:∀(W:World) (g_x:Nat),FP W→(w.heap.size≤g_x)→(NE g_x)→(Bx W g_x 37 #[.bool false,.slice none 0 0,.slice none 0 0])→X 7 (LB 18 78331) (a0.put (some 20) (.pointer (some ⟨g_x,0,none⟩))) W:=by as_aux_lemma=>
      intro W g_x F sz_x ne_x Blx
      rw[←HX.out,←HA.out]
      try simp only[LYp]
      try dsimp only[List.set]
      refine U_on 2 fun K hK=>?_
      obtain⟨hs,Bld,Blq,Blo,Blp,Bln,B0,h7,h11,h24⟩:=(HP _).1 F
      go_simp
      (with_reducible refine (l2_whole pe18.1 _ (Bpe18.1.mono (by decide))).mono ?_)
      rintro e W1 ⟨uh25,rfl,h25,hb⟩
      replace F:=HM _ _ F hb
      replace Blx:=Blx.mono hb
      clear hb hs Bld Blq Blo Blp Bln B0 h7 h11 h24
      try go_wp2_with fail
      refine hK.out _ _ (HC _ F) (fun hH=>?_)
      clear hK K
      try simp only[LYp]
      try dsimp only[List.set]
      have hkey:=key4.out W1 g_x uh25 F sz_x ne_x Blx h25
      rw[←HX.out,←HA.out] at hkey
      try simp only[LYp] at hkey
      try dsimp only[List.set] at hkey
      exact U_at (by kernel_rfl) (by kernel_rfl) hkey
     replace key2:=ae key2
     have key1:∀(W:World) (uh25:Value),FP W→(PV W uh25 (((pe18.1:Int):Rat)))→X 7 (LB 18 12799) (a0.put (some 104) (uh25)) W:=by as_aux_lemma=>
      intro W uh25 F h25
      rw[←HX.out,←HA.out]
      try simp only[LYp]
      try dsimp only[List.set]
      refine dq (i:=9) (j:=16) (by kernel_rfl) rfl rfl  (fun K hK=>?_) (fun K hK=>?_)
      ·obtain⟨hs,Bld,Blq,Blo,Blp,Bln,B0,h7,h11,h24⟩:=(HP _).1 F
       go_simp
       (with_reducible refine (l2_whole (pe22.1 - pe18.1) _ ((Wn.sub Bpe22.1 Bpe18.1).mono (by decide))).mono ?_)
       rintro e W1 ⟨uh27,rfl,h27,hb⟩
       replace F:=HM _ _ F hb
       replace h25:=h25.mono hb
       clear hb hs Bld Blq Blo Blp Bln B0 h7 h11 h24
       try go_wp2_with fail
       refine hK.out _ _ (HC _ F) (fun hH=>?_)
       clear hK K
       try simp only[LYp]
       try dsimp only[List.set]
       have hkey:=key3.out W1 uh25 uh27 F h25 h27
       rw[←HX.out,←HA.out] at hkey
       try simp only[LYp] at hkey
       try dsimp only[List.set] at hkey
       exact U_at (by kernel_rfl) (by kernel_rfl) hkey
      go_simp
      refine aq ((HP _).1 F).1 (fun W1 hb Blx sz_x=>?_)
      have ne_x:=HE _ F
      replace F:=HM _ _ F hb
      replace h25:=h25.mono hb
      clear hb
      refine hK.out _ _ (HC _ F) (fun hH=>?_)
      clear hK K
      try simp only[LYp]
      try dsimp only[List.set]
      have hkey:=key4.out W1 W.heap.size uh25 F sz_x ne_x Blx h25
      rw[←HX.out,←HA.out] at hkey
      try simp only[LYp] at hkey
      try dsimp only[List.set] at hkey
      exact U_at (by kernel_rfl) (by kernel_rfl) hkey
     replace key1:=ae key1
     have key0:∀(W:World),FP W→X 8 (LB 18 12795) a0 W:=by as_aux_lemma=>
      intro W F
      rw[←HX.out,←HA.out]
      try simp only[LYp]
      try dsimp only[List.set]
      refine dq (i:=2) (j:=16) (by kernel_rfl) rfl rfl  (fun K hK=>?_) (fun K hK=>?_)
      ·obtain⟨hs,Bld,Blq,Blo,Blp,Bln,B0,h7,h11,h24⟩:=(HP _).1 F
       go_simp
       (with_reducible refine (l2_whole pe18.1 _ (Bpe18.1.mono (by decide))).mono ?_)
       rintro e W1 ⟨uh25,rfl,h25,hb⟩
       replace F:=HM _ _ F hb
       clear hb hs Bld Blq Blo Blp Bln B0 h7 h11 h24
       try go_wp2_with fail
       refine hK.out _ _ (HC _ F) (fun hH=>?_)
       clear hK K
       try simp only[LYp]
       try dsimp only[List.set]
       have hkey:=key1.out W1 uh25 F h25
       rw[←HX.out,←HA.out] at hkey
       try simp only[LYp] at hkey
       try dsimp only[List.set] at hkey
       exact U_at (by kernel_rfl) (by kernel_rfl) hkey
      go_simp
      refine aq ((HP _).1 F).1 (fun W1 hb Blx sz_x=>?_)
      have ne_x:=HE _ F
      replace F:=HM _ _ F hb
      clear hb
      refine hK.out _ _ (HC _ F) (fun hH=>?_)
      clear hK K
      try simp only[LYp]
      try dsimp only[List.set]
      have hkey:=key2.out W1 W.heap.size F sz_x ne_x Blx
      rw[←HX.out,←HA.out] at hkey
      try simp only[LYp] at hkey
      try dsimp only[List.set] at hkey
      exact U_at (by kernel_rfl) (by kernel_rfl) hkey
     replace key0:=ae key0
     rw[←HX.out]
     have hkey:=key0.out w11 F
     rw[←HX.out] at hkey
     exact U_at (by kernel_rfl) (by kernel_rfl) hkey
    case rest=>
     clear hs Bld Blq Blo Blp Bln B0 h7 h11 h24
     obtain⟨gx,sh31,ah31,nh31,ch31,Ah31,Nh31,Ch31,rfl,hg_x,ng_x_d,ng_x_q,ng_x_o,ng_x_p,ng_x_n,ng_x_part,Blx,hs,Bld,Blq,Blo,Blp,Bln,B0,h7,h11,h24,h31⟩:=hcut
     obtain⟨X,KX⟩:∃z:Rat,z=((((pe18.1:Int):Rat)) + ((((c:Int):Rat) / ((10:Int):Rat)) * (((pe22.1 - pe18.1:Int):Rat)))) - (((pe10.1:Int):Rat)):=⟨_,rfl⟩
     have SX:=ae (show SzQ 200 X from by rw[KX];exact SzQ.mono (SzQ.sub (SzQ.add (szN (Bpe18.1.mono (by decide))) (SzQ.mul HSF.out (szN ((Wn.sub Bpe22.1 Bpe18.1).mono (by decide))))) (szN (Bpe10.1.mono (by decide)))) (by decide))
     rw[←KX] at h31
     replace KX:=ae KX
     go_upto_region 11 with fail
     have AX33:IntKind.i64.wrap (pe22.2 - pe18.2)=pe22.2 - pe18.2:=Wn.wsub Bpe22.2 Bpe18.2 (by decide)
     go_cut [21] (fun kv0 wz=>∃gy sh38 ah38 nh38 ch38 Ah38 Nh38 Ch38,kv0=.pointer (some ⟨gy,0,none⟩)∧w.heap.size≤gy∧gy≠w3.heap.size∧gy≠(w3.heap.size + 1)∧gy≠w5.heap.size∧gy≠gp∧gy≠gn∧gy≠w9.heap.size∧gy≠gx∧Bx wz gy 37 #[.bool sh38,.slice ah38 nh38 ch38,.slice Ah38 Nh38 Ch38]∧Below w.heap.size w wz∧Bx wz (w3.heap.size) 37 #[.bool sh7,.slice ah7 nh7 ch7,.slice Ah7 Nh7 Ch7]∧Bx wz (w3.heap.size + 1) 24 #[.int .i64 pe10.1,.int .i64 pe10.2]∧Bx wz (w5.heap.size) 37 #[.bool sh11,.slice ah11 nh11 ch11,.slice Ah11 Nh11 Ch11]∧Bx wz (gp) 24 #[.int .i64 pe18.1,.int .i64 pe18.2]∧Bx wz (gn) 24 #[.int .i64 pe22.1,.int .i64 pe22.2]∧Bx wz (w9.heap.size) 37 #[.bool sh24,.slice ah24 nh24 ch24,.slice Ah24 Nh24 Ch24]∧Bx wz (gx) 37 #[.bool sh31,.slice ah31 nh31 ch31,.slice Ah31 Nh31 Ch31]∧PV wz (.agg #[.bool sh7,.slice ah7 nh7 ch7,.slice Ah7 Nh7 Ch7]) (apZ l mm)∧PV wz (.agg #[.bool sh11,.slice ah11 nh11 ch11,.slice Ah11 Nh11 Ch11]) (dsE l pe10)∧PV wz (.agg #[.bool sh24,.slice ah24 nh24 ch24,.slice Ah24 Nh24 Ch24]) (((c:Int):Rat) / ((10:Int):Rat))∧PV wz (.agg #[.bool sh31,.slice ah31 nh31 ch31,.slice Ah31 Nh31 Ch31]) (X)∧PV wz (.agg #[.bool sh38,.slice ah38 nh38 ch38,.slice Ah38 Nh38 Ch38]) (((((pe18.2:Int):Rat)) + ((((c:Int):Rat) / ((10:Int):Rat)) * (((pe22.2 - pe18.2:Int):Rat)))) - (((pe10.2:Int):Rat))))
     case first=>
      refine bw (S:=fun w'=>w'.cell? ⟨gp,0,none⟩=some (.int .i64 pe18.1)∧w'.cell? ⟨gp,1,none⟩=some (.int .i64 pe18.2)∧w'.cell? ⟨w9.heap.size,0,none⟩=some (.bool sh24)∧w'.cell? ⟨w9.heap.size,1,none⟩=some (.slice ah24 nh24 ch24)∧w'.cell? ⟨w9.heap.size,2,none⟩=some (.slice Ah24 Nh24 Ch24)∧w'.cell? ⟨gn,0,none⟩=some (.int .i64 pe22.1)∧w'.cell? ⟨gn,1,none⟩=some (.int .i64 pe22.2)∧w'.cell? ⟨w3.heap.size + 1,0,none⟩=some (.int .i64 pe10.1)∧w'.cell? ⟨w3.heap.size + 1,1,none⟩=some (.int .i64 pe10.2)) (by kernel_rfl) 17 ?_
      refine cq.abs ?_
      intro w11 hW
      have hb:Below wc.heap.size wc w11:=by rw[hW];exact de _
      replace hs:=ar hs hb
      revert h31;revert h24;revert h11;revert h7;revert B0;revert Bln;revert Blp;revert Blo;revert Blq;revert Bld;revert Blx;refine mo hb ?_;intro Blx Bld Blq Blo Blp Bln B0 h7 h11 h24 h31
      clear hb hW
      obtain⟨FP,HP⟩:∃FP:World→Prop,∀W,FP W↔(Below w.heap.size w W∧Bx W (w3.heap.size) 37 #[.bool sh7,.slice ah7 nh7 ch7,.slice Ah7 Nh7 Ch7]∧Bx W (w3.heap.size + 1) 24 #[.int .i64 pe10.1,.int .i64 pe10.2]∧Bx W (w5.heap.size) 37 #[.bool sh11,.slice ah11 nh11 ch11,.slice Ah11 Nh11 Ch11]∧Bx W (gp) 24 #[.int .i64 pe18.1,.int .i64 pe18.2]∧Bx W (gn) 24 #[.int .i64 pe22.1,.int .i64 pe22.2]∧Bx W (w9.heap.size) 37 #[.bool sh24,.slice ah24 nh24 ch24,.slice Ah24 Nh24 Ch24]∧Bx W (gx) 37 #[.bool sh31,.slice ah31 nh31 ch31,.slice Ah31 Nh31 Ch31]∧PV W (.agg #[.bool sh7,.slice ah7 nh7 ch7,.slice Ah7 Nh7 Ch7]) (apZ l mm)∧PV W (.agg #[.bool sh11,.slice ah11 nh11 ch11,.slice Ah11 Nh11 Ch11]) (dsE l pe10)∧PV W (.agg #[.bool sh24,.slice ah24 nh24 ch24,.slice Ah24 Nh24 Ch24]) (((c:Int):Rat) / ((10:Int):Rat))∧PV W (.agg #[.bool sh31,.slice ah31 nh31 ch31,.slice Ah31 Nh31 Ch31]) (X)):=⟨_,fun _=>Iff.rfl⟩
      have HM:∀W W',FP W→Below W.heap.size W W'→FP W':=by intro W W' h hb;obtain⟨hs,Bld,Blq,Blo,Blp,Bln,B0,Blx,h7,h11,h24,h31⟩:=(HP _).1 h;exact (HP _).2 ⟨ar hs hb,Bld.mono hb,Blq.mono hb,Blo.mono hb,Blp.mono hb,Bln.mono hb,B0.mono hb,Blx.mono hb,h7.mono hb,h11.mono hb,h24.mono hb,h31.mono hb⟩
      have HC:∀W,FP W→W.cell? ⟨gp,0,none⟩=some (.int .i64 pe18.1)∧W.cell? ⟨gp,1,none⟩=some (.int .i64 pe18.2)∧W.cell? ⟨w9.heap.size,0,none⟩=some (.bool sh24)∧W.cell? ⟨w9.heap.size,1,none⟩=some (.slice ah24 nh24 ch24)∧W.cell? ⟨w9.heap.size,2,none⟩=some (.slice Ah24 Nh24 Ch24)∧W.cell? ⟨gn,0,none⟩=some (.int .i64 pe22.1)∧W.cell? ⟨gn,1,none⟩=some (.int .i64 pe22.2)∧W.cell? ⟨w3.heap.size + 1,0,none⟩=some (.int .i64 pe10.1)∧W.cell? ⟨w3.heap.size + 1,1,none⟩=some (.int .i64 pe10.2):=by intro W h;obtain⟨hs,Bld,Blq,Blo,Blp,Bln,B0,Blx,h7,h11,h24,h31⟩:=(HP _).1 h;exact⟨Blp.at 0 rfl,Blp.at 1 rfl,B0.at 0 rfl,B0.at 1 rfl,B0.at 2 rfl,Bln.at 0 rfl,Bln.at 1 rfl,Blq.at 0 rfl,Blq.at 1 rfl⟩
      obtain⟨NE,HN⟩:∃NE:Nat→Prop,∀g,NE g↔(w3.heap.size≠g∧(w3.heap.size + 1)≠g∧w5.heap.size≠g∧gp≠g∧gn≠g∧w9.heap.size≠g∧gx≠g):=⟨_,fun _=>Iff.rfl⟩
      have HE:∀W,FP W→NE W.heap.size:=by intro W h;obtain⟨hs,Bld,Blq,Blo,Blp,Bln,B0,Blx,h7,h11,h24,h31⟩:=(HP _).1 h;exact (HN _).2 (⟨Nat.ne_of_lt Bld.lt,Nat.ne_of_lt Blq.lt,Nat.ne_of_lt Blo.lt,Nat.ne_of_lt Blp.lt,Nat.ne_of_lt Bln.lt,Nat.ne_of_lt B0.lt,Nat.ne_of_lt Blx.lt⟩)
      have HG:∀W W' g,FP W→Gr [g] W W'→aw W W'→w.heap.size≤g→NE g→FP W':=by intro W W' g h hG hk hg hn;obtain⟨hs,Bld,Blq,Blo,Blp,Bln,B0,Blx,h7,h11,h24,h31⟩:=(HP _).1 h;obtain⟨e_d,e_q,e_o,e_p,e_n,e_part,e_x⟩:=(HN g).1 hn;exact (HP _).2 ⟨hs.trans (hG.below1 hs.size hg),hG.bx Bld (az e_d),hG.bx Blq (az e_q),hG.bx Blo (az e_o),hG.bx Blp (az e_p),hG.bx Bln (az e_n),hG.bx B0 (az e_part),hG.bx Blx (az e_x),h7.keep hk,h11.keep hk,h24.keep hk,h31.keep hk⟩
      have F:FP w11:=(HP _).2 ⟨hs,Bld,Blq,Blo,Blp,Bln,B0,Blx,h7,h11,h24,h31⟩
      clear hs Bld Blq Blo Blp Bln B0 Blx h7 h11 h24 h31
      have hH:=HC _ F
      refine U_td 0 118 hH ?_
      try simp only[LYp]
      try dsimp only[List.set]
      refine U_td 1 119 hH ?_
      try simp only[LYp]
      try dsimp only[List.set]
      refine U_td 3 121 hH ?_
      try simp only[LYp]
      try dsimp only[List.set]
      refine U_td 4 122 hH ?_
      try simp only[LYp]
      try dsimp only[List.set]
      refine U_td 5 123 hH ?_
      try simp only[LYp]
      try dsimp only[List.set]
      refine U_td 6 124 hH ?_
      try simp only[LYp]
      try dsimp only[List.set]
      refine U_td 7 125 hH ?_
      try simp only[LYp]
      try dsimp only[List.set]
      refine U_td 8 126 hH ?_
      try simp only[LYp]
      try dsimp only[List.set]
      refine U_td 12 130 hH ?_
      try simp only[LYp]
      try dsimp only[List.set]
      refine U_td 13 131 hH ?_
      try simp only[LYp]
      try dsimp only[List.set]
      clear hH
      refine ks ?_
      intro X a0 HX HA
      have key13:∀(W:World) (g_y:Nat) (uh32:Value) (uh34:Value) (uh35:Value) (uh36:Value) (uh37:Value) (uh38:Value),FP W→(w.heap.size≤g_y)→(NE g_y)→(Bx W g_y 37 #[.bool false,.slice none 0 0,.slice none 0 0])→(PV W uh38 (((((pe18.2:Int):Rat)) + ((((c:Int):Rat) / ((10:Int):Rat)) * (((pe22.2 - pe18.2:Int):Rat)))) - (((pe10.2:Int):Rat))))→X 1 (LB 18 131071) (((((((a0.put (some 120) (uh32)).put (some 127) (uh34)).put (some 128) (uh35)).put (some 129) (uh36)).put (some 132) (uh37)).put (some 133) (uh38)).put (some 21) (.pointer (some ⟨g_y,0,none⟩))) W:=by as_aux_lemma=>
       intro W g_y uh32 uh34 uh35 uh36 uh37 uh38 F sz_y ne_y Bly h38
       rw[←HX.out,←HA.out]
       try simp only[LYp]
       try dsimp only[List.set]
       obtain⟨sh38,ah38,nh38,ch38,Ah38,Nh38,Ch38,rfl⟩:=h38.shape
       refine Bly.k3fl fun B8 B9 Ba fy Ly=>?_
       refine dr (by kernel_rfl) rfl (by kernel_rfl) (fun K hK=>?_)
       go_simp
       refine hK.out _ _ ?_
       clear hK K
       intro w12 hW
       have hG:Gr [g_y] W w12:=by rw[hW];exact (Gr.refl _ _).set.set.set
       have hk:=hG.keep ⟨⟨_,Bly.ty,by decide⟩,True.intro⟩
       replace Bly:Bx w12 (g_y) 37 #[.bool sh38,.slice ah38 nh38 ch38,.slice Ah38 Nh38 Ch38]:=by rw[hW];exact Bly.set3
       replace F:=HG _ _ _ F hG hk sz_y ne_y
       replace h38:=h38.keep hk
       clear hW hG hk
       obtain⟨hs,Bld,Blq,Blo,Blp,Bln,B0,Blx,h7,h11,h24,h31⟩:=(HP _).1 F
       try simp only[LYp]
       try dsimp only[List.set]
       obtain⟨e_d_y,e_q_y,e_o_y,e_p_y,e_n_y,e_part_y,e_x_y⟩:=(HN _).1 ne_y
       clear HX HA HM HP HC HG HN HE
       go_wp2_with fail
       go_meet
       exact⟨g_y,_,_,_,_,_,_,_,rfl,(by first|exact sz_y|omega),(by omega),(by omega),(by omega),(by omega),(by omega),(by omega),(by omega),Bly,hs,Bld,Blq,Blo,Blp,Bln,B0,Blx,h7,h11,h24,h31,h38⟩
      replace key13:=ae key13
      have key12:∀(W:World) (g_y:Nat) (uh32:Value) (uh34:Value) (uh35:Value) (uh36:Value) (uh37:Value),FP W→(w.heap.size≤g_y)→(NE g_y)→(Bx W g_y 37 #[.bool false,.slice none 0 0,.slice none 0 0])→(PV W uh36 ((((pe18.2:Int):Rat)) + ((((c:Int):Rat) / ((10:Int):Rat)) * (((pe22.2 - pe18.2:Int):Rat)))))→(PV W uh37 (((pe10.2:Int):Rat)))→X 2 (LB 18 98303) ((((((a0.put (some 120) (uh32)).put (some 127) (uh34)).put (some 128) (uh35)).put (some 129) (uh36)).put (some 132) (uh37)).put (some 21) (.pointer (some ⟨g_y,0,none⟩))) W:=by as_aux_lemma=>
       intro W g_y uh32 uh34 uh35 uh36 uh37 F sz_y ne_y Bly h36 h37
       rw[←HX.out,←HA.out]
       try simp only[LYp]
       try dsimp only[List.set]
       refine U_on 15 fun K hK=>?_
       obtain⟨hs,Bld,Blq,Blo,Blp,Bln,B0,Blx,h7,h11,h24,h31⟩:=(HP _).1 F
       go_simp
       (with_reducible refine (pSub h36 h37 (SzQ.fit (SzQ.add (szN (Bpe18.2.mono (by decide))) (SzQ.mul HSF.out (szN ((Wn.sub Bpe22.2 Bpe18.2).mono (by decide)))))) (SzQ.fit (szN (Bpe10.2.mono (by decide))))).mono ?_)
       rintro e W1 ⟨uh38,rfl,h38,hb⟩
       replace F:=HM _ _ F hb
       revert Bly h36 h37;refine mo hb ?_;intro Bly h36 h37
       clear hb hs Bld Blq Blo Blp Bln B0 Blx h7 h11 h24 h31
       try go_wp2_with fail
       refine hK.out _ _ (HC _ F) (fun hH=>?_)
       clear hK K
       try simp only[LYp]
       try dsimp only[List.set]
       have hkey:=key13.out W1 g_y uh32 uh34 uh35 uh36 uh37 uh38 F sz_y ne_y Bly h38
       rw[←HX.out,←HA.out] at hkey
       try simp only[LYp] at hkey
       try dsimp only[List.set] at hkey
       exact U_at (by kernel_rfl) (by kernel_rfl) hkey
      replace key12:=ae key12
      have key11:∀(W:World) (uh32:Value) (uh34:Value) (uh35:Value) (uh36:Value) (uh37:Value) (uh38:Value),FP W→(PV W uh38 (((((pe18.2:Int):Rat)) + ((((c:Int):Rat) / ((10:Int):Rat)) * (((pe22.2 - pe18.2:Int):Rat)))) - (((pe10.2:Int):Rat))))→X 2 (LB 18 65535) ((((((a0.put (some 120) (uh32)).put (some 127) (uh34)).put (some 128) (uh35)).put (some 129) (uh36)).put (some 132) (uh37)).put (some 133) (uh38)) W:=by as_aux_lemma=>
       intro W uh32 uh34 uh35 uh36 uh37 uh38 F h38
       rw[←HX.out,←HA.out]
       try simp only[LYp]
       try dsimp only[List.set]
       refine U_on 16 fun K hK=>?_
       go_simp
       refine aq ((HP _).1 F).1 (fun W1 hb Bly sz_y=>?_)
       have ne_y:=HE _ F
       replace F:=HM _ _ F hb
       replace h38:=h38.mono hb
       clear hb
       refine hK.out _ _ (HC _ F) (fun hH=>?_)
       clear hK K
       try simp only[LYp]
       try dsimp only[List.set]
       have hkey:=key13.out W1 W.heap.size uh32 uh34 uh35 uh36 uh37 uh38 F sz_y ne_y Bly h38
       rw[←HX.out,←HA.out] at hkey
       try simp only[LYp] at hkey
       try dsimp only[List.set] at hkey
       exact U_at (by kernel_rfl) (by kernel_rfl) hkey
      replace key11:=ae key11
      have key10:∀(W:World) (g_y:Nat) (uh32:Value) (uh34:Value) (uh35:Value) (uh36:Value),FP W→(w.heap.size≤g_y)→(NE g_y)→(Bx W g_y 37 #[.bool false,.slice none 0 0,.slice none 0 0])→(PV W uh36 ((((pe18.2:Int):Rat)) + ((((c:Int):Rat) / ((10:Int):Rat)) * (((pe22.2 - pe18.2:Int):Rat)))))→X 3 (LB 18 81919) (((((a0.put (some 120) (uh32)).put (some 127) (uh34)).put (some 128) (uh35)).put (some 129) (uh36)).put (some 21) (.pointer (some ⟨g_y,0,none⟩))) W:=by as_aux_lemma=>
       intro W g_y uh32 uh34 uh35 uh36 F sz_y ne_y Bly h36
       rw[←HX.out,←HA.out]
       try simp only[LYp]
       try dsimp only[List.set]
       refine U_on 14 fun K hK=>?_
       obtain⟨hs,Bld,Blq,Blo,Blp,Bln,B0,Blx,h7,h11,h24,h31⟩:=(HP _).1 F
       go_simp
       (with_reducible refine (l2_whole pe10.2 _ (Bpe10.2.mono (by decide))).mono ?_)
       rintro e W1 ⟨uh37,rfl,h37,hb⟩
       replace F:=HM _ _ F hb
       revert Bly h36;refine mo hb ?_;intro Bly h36
       clear hb hs Bld Blq Blo Blp Bln B0 Blx h7 h11 h24 h31
       try go_wp2_with fail
       refine hK.out _ _ (HC _ F) (fun hH=>?_)
       clear hK K
       try simp only[LYp]
       try dsimp only[List.set]
       have hkey:=key12.out W1 g_y uh32 uh34 uh35 uh36 uh37 F sz_y ne_y Bly h36 h37
       rw[←HX.out,←HA.out] at hkey
       try simp only[LYp] at hkey
       try dsimp only[List.set] at hkey
       exact U_at (by kernel_rfl) (by kernel_rfl) hkey
      replace key10:=ae key10
      have key9:∀(W:World) (uh32:Value) (uh34:Value) (uh35:Value) (uh36:Value) (uh37:Value),FP W→(PV W uh36 ((((pe18.2:Int):Rat)) + ((((c:Int):Rat) / ((10:Int):Rat)) * (((pe22.2 - pe18.2:Int):Rat)))))→(PV W uh37 (((pe10.2:Int):Rat)))→X 3 (LB 18 32767) (((((a0.put (some 120) (uh32)).put (some 127) (uh34)).put (some 128) (uh35)).put (some 129) (uh36)).put (some 132) (uh37)) W:=by as_aux_lemma=>
       intro W uh32 uh34 uh35 uh36 uh37 F h36 h37
       rw[←HX.out,←HA.out]
       try simp only[LYp]
       try dsimp only[List.set]
       refine dq (i:=15) (j:=16) (by kernel_rfl) rfl rfl  (fun K hK=>?_) (fun K hK=>?_)
       ·obtain⟨hs,Bld,Blq,Blo,Blp,Bln,B0,Blx,h7,h11,h24,h31⟩:=(HP _).1 F
        go_simp
        (with_reducible refine (pSub h36 h37 (SzQ.fit (SzQ.add (szN (Bpe18.2.mono (by decide))) (SzQ.mul HSF.out (szN ((Wn.sub Bpe22.2 Bpe18.2).mono (by decide)))))) (SzQ.fit (szN (Bpe10.2.mono (by decide))))).mono ?_)
        rintro e W1 ⟨uh38,rfl,h38,hb⟩
        replace F:=HM _ _ F hb
        revert h36 h37;refine mo hb ?_;intro h36 h37
        clear hb hs Bld Blq Blo Blp Bln B0 Blx h7 h11 h24 h31
        try go_wp2_with fail
        refine hK.out _ _ (HC _ F) (fun hH=>?_)
        clear hK K
        try simp only[LYp]
        try dsimp only[List.set]
        have hkey:=key11.out W1 uh32 uh34 uh35 uh36 uh37 uh38 F h38
        rw[←HX.out,←HA.out] at hkey
        try simp only[LYp] at hkey
        try dsimp only[List.set] at hkey
        exact U_at (by kernel_rfl) (by kernel_rfl) hkey
       go_simp
       refine aq ((HP _).1 F).1 (fun W1 hb Bly sz_y=>?_)
       have ne_y:=HE _ F
       replace F:=HM _ _ F hb
       revert h36 h37;refine mo hb ?_;intro h36 h37
       clear hb
       refine hK.out _ _ (HC _ F) (fun hH=>?_)
       clear hK K
       try simp only[LYp]
       try dsimp only[List.set]
       have hkey:=key12.out W1 W.heap.size uh32 uh34 uh35 uh36 uh37 F sz_y ne_y Bly h36 h37
       rw[←HX.out,←HA.out] at hkey
       try simp only[LYp] at hkey
       try dsimp only[List.set] at hkey
       exact U_at (by kernel_rfl) (by kernel_rfl) hkey
      replace key9:=ae key9
      have key8:∀(W:World) (g_y:Nat) (uh32:Value) (uh34:Value) (uh35:Value),FP W→(w.heap.size≤g_y)→(NE g_y)→(Bx W g_y 37 #[.bool false,.slice none 0 0,.slice none 0 0])→(PV W uh32 (((pe18.2:Int):Rat)))→(PV W uh35 ((((c:Int):Rat) / ((10:Int):Rat)) * (((pe22.2 - pe18.2:Int):Rat))))→X 4 (LB 18 79871) ((((a0.put (some 120) (uh32)).put (some 127) (uh34)).put (some 128) (uh35)).put (some 21) (.pointer (some ⟨g_y,0,none⟩))) W:=by as_aux_lemma=>
       intro W g_y uh32 uh34 uh35 F sz_y ne_y Bly h32 h35
       rw[←HX.out,←HA.out]
       try simp only[LYp]
       try dsimp only[List.set]
       refine U_on 11 fun K hK=>?_
       obtain⟨hs,Bld,Blq,Blo,Blp,Bln,B0,Blx,h7,h11,h24,h31⟩:=(HP _).1 F
       go_simp
       (with_reducible refine (yi h32 h35 (SzQ.fit (szN (Bpe18.2.mono (by decide)))) (SzQ.fit (SzQ.mul HSF.out (szN ((Wn.sub Bpe22.2 Bpe18.2).mono (by decide)))))).mono ?_)
       rintro e W1 ⟨uh36,rfl,h36,hb⟩
       replace F:=HM _ _ F hb
       revert Bly h32 h35;refine mo hb ?_;intro Bly h32 h35
       clear hb hs Bld Blq Blo Blp Bln B0 Blx h7 h11 h24 h31
       try go_wp2_with fail
       refine hK.out _ _ (HC _ F) (fun hH=>?_)
       clear hK K
       try simp only[LYp]
       try dsimp only[List.set]
       have hkey:=key10.out W1 g_y uh32 uh34 uh35 uh36 F sz_y ne_y Bly h36
       rw[←HX.out,←HA.out] at hkey
       try simp only[LYp] at hkey
       try dsimp only[List.set] at hkey
       exact U_at (by kernel_rfl) (by kernel_rfl) hkey
      replace key8:=ae key8
      have key7:∀(W:World) (uh32:Value) (uh34:Value) (uh35:Value) (uh36:Value),FP W→(PV W uh36 ((((pe18.2:Int):Rat)) + ((((c:Int):Rat) / ((10:Int):Rat)) * (((pe22.2 - pe18.2:Int):Rat)))))→X 4 (LB 18 16383) ((((a0.put (some 120) (uh32)).put (some 127) (uh34)).put (some 128) (uh35)).put (some 129) (uh36)) W:=by as_aux_lemma=>
       intro W uh32 uh34 uh35 uh36 F h36
       rw[←HX.out,←HA.out]
       try simp only[LYp]
       try dsimp only[List.set]
       refine dq (i:=14) (j:=16) (by kernel_rfl) rfl rfl  (fun K hK=>?_) (fun K hK=>?_)
       ·obtain⟨hs,Bld,Blq,Blo,Blp,Bln,B0,Blx,h7,h11,h24,h31⟩:=(HP _).1 F
        go_simp
        (with_reducible refine (l2_whole pe10.2 _ (Bpe10.2.mono (by decide))).mono ?_)
        rintro e W1 ⟨uh37,rfl,h37,hb⟩
        replace F:=HM _ _ F hb
        replace h36:=h36.mono hb
        clear hb hs Bld Blq Blo Blp Bln B0 Blx h7 h11 h24 h31
        try go_wp2_with fail
        refine hK.out _ _ (HC _ F) (fun hH=>?_)
        clear hK K
        try simp only[LYp]
        try dsimp only[List.set]
        have hkey:=key9.out W1 uh32 uh34 uh35 uh36 uh37 F h36 h37
        rw[←HX.out,←HA.out] at hkey
        try simp only[LYp] at hkey
        try dsimp only[List.set] at hkey
        exact U_at (by kernel_rfl) (by kernel_rfl) hkey
       go_simp
       refine aq ((HP _).1 F).1 (fun W1 hb Bly sz_y=>?_)
       have ne_y:=HE _ F
       replace F:=HM _ _ F hb
       replace h36:=h36.mono hb
       clear hb
       refine hK.out _ _ (HC _ F) (fun hH=>?_)
       clear hK K
       try simp only[LYp]
       try dsimp only[List.set]
       have hkey:=key10.out W1 W.heap.size uh32 uh34 uh35 uh36 F sz_y ne_y Bly h36
       rw[←HX.out,←HA.out] at hkey
       try simp only[LYp] at hkey
       try dsimp only[List.set] at hkey
       exact U_at (by kernel_rfl) (by kernel_rfl) hkey
      replace key7:=ae key7
      have key6:∀(W:World) (g_y:Nat) (uh32:Value) (uh34:Value),FP W→(w.heap.size≤g_y)→(NE g_y)→(Bx W g_y 37 #[.bool false,.slice none 0 0,.slice none 0 0])→(PV W uh32 (((pe18.2:Int):Rat)))→(PV W uh34 (((pe22.2 - pe18.2:Int):Rat)))→X 5 (LB 18 78847) (((a0.put (some 120) (uh32)).put (some 127) (uh34)).put (some 21) (.pointer (some ⟨g_y,0,none⟩))) W:=by as_aux_lemma=>
       intro W g_y uh32 uh34 F sz_y ne_y Bly h32 h34
       rw[←HX.out,←HA.out]
       try simp only[LYp]
       try dsimp only[List.set]
       refine U_on 10 fun K hK=>?_
       obtain⟨hs,Bld,Blq,Blo,Blp,Bln,B0,Blx,h7,h11,h24,h31⟩:=(HP _).1 F
       go_simp
       (with_reducible refine (pMul h24 h34 (SzQ.fit HSF.out) (SzQ.fit (szN ((Wn.sub Bpe22.2 Bpe18.2).mono (by decide))))).mono ?_)
       rintro e W1 ⟨uh35,rfl,h35,hb⟩
       replace F:=HM _ _ F hb
       revert Bly h32 h34;refine mo hb ?_;intro Bly h32 h34
       clear hb hs Bld Blq Blo Blp Bln B0 Blx h7 h11 h24 h31
       try go_wp2_with fail
       refine hK.out _ _ (HC _ F) (fun hH=>?_)
       clear hK K
       try simp only[LYp]
       try dsimp only[List.set]
       have hkey:=key8.out W1 g_y uh32 uh34 uh35 F sz_y ne_y Bly h32 h35
       rw[←HX.out,←HA.out] at hkey
       try simp only[LYp] at hkey
       try dsimp only[List.set] at hkey
       exact U_at (by kernel_rfl) (by kernel_rfl) hkey
      replace key6:=ae key6
      have key5:∀(W:World) (uh32:Value) (uh34:Value) (uh35:Value),FP W→(PV W uh32 (((pe18.2:Int):Rat)))→(PV W uh35 ((((c:Int):Rat) / ((10:Int):Rat)) * (((pe22.2 - pe18.2:Int):Rat))))→X 5 (LB 18 14335) (((a0.put (some 120) (uh32)).put (some 127) (uh34)).put (some 128) (uh35)) W:=by as_aux_lemma=>
       intro W uh32 uh34 uh35 F h32 h35
       rw[←HX.out,←HA.out]
       try simp only[LYp]
       try dsimp only[List.set]
       refine dq (i:=11) (j:=16) (by kernel_rfl) rfl rfl  (fun K hK=>?_) (fun K hK=>?_)
       ·obtain⟨hs,Bld,Blq,Blo,Blp,Bln,B0,Blx,h7,h11,h24,h31⟩:=(HP _).1 F
        go_simp
        (with_reducible refine (yi h32 h35 (SzQ.fit (szN (Bpe18.2.mono (by decide)))) (SzQ.fit (SzQ.mul HSF.out (szN ((Wn.sub Bpe22.2 Bpe18.2).mono (by decide)))))).mono ?_)
        rintro e W1 ⟨uh36,rfl,h36,hb⟩
        replace F:=HM _ _ F hb
        revert h32 h35;refine mo hb ?_;intro h32 h35
        clear hb hs Bld Blq Blo Blp Bln B0 Blx h7 h11 h24 h31
        try go_wp2_with fail
        refine hK.out _ _ (HC _ F) (fun hH=>?_)
        clear hK K
        try simp only[LYp]
        try dsimp only[List.set]
        have hkey:=key7.out W1 uh32 uh34 uh35 uh36 F h36
        rw[←HX.out,←HA.out] at hkey
        try simp only[LYp] at hkey
        try dsimp only[List.set] at hkey
        exact U_at (by kernel_rfl) (by kernel_rfl) hkey
       go_simp
       refine aq ((HP _).1 F).1 (fun W1 hb Bly sz_y=>?_)
       have ne_y:=HE _ F
       replace F:=HM _ _ F hb
       revert h32 h35;refine mo hb ?_;intro h32 h35
       clear hb
       refine hK.out _ _ (HC _ F) (fun hH=>?_)
       clear hK K
       try simp only[LYp]
       try dsimp only[List.set]
       have hkey:=key8.out W1 W.heap.size uh32 uh34 uh35 F sz_y ne_y Bly h32 h35
       rw[←HX.out,←HA.out] at hkey
       try simp only[LYp] at hkey
       try dsimp only[List.set] at hkey
       exact U_at (by kernel_rfl) (by kernel_rfl) hkey
      replace key5:=ae key5
      have key4:∀(W:World) (g_y:Nat) (uh32:Value),FP W→(w.heap.size≤g_y)→(NE g_y)→(Bx W g_y 37 #[.bool false,.slice none 0 0,.slice none 0 0])→(PV W uh32 (((pe18.2:Int):Rat)))→X 6 (LB 18 78335) ((a0.put (some 120) (uh32)).put (some 21) (.pointer (some ⟨g_y,0,none⟩))) W:=by as_aux_lemma=>
       intro W g_y uh32 F sz_y ne_y Bly h32
       rw[←HX.out,←HA.out]
       try simp only[LYp]
       try dsimp only[List.set]
       refine U_on 9 fun K hK=>?_
       obtain⟨hs,Bld,Blq,Blo,Blp,Bln,B0,Blx,h7,h11,h24,h31⟩:=(HP _).1 F
       go_simp
       (with_reducible refine (l2_whole (pe22.2 - pe18.2) _ ((Wn.sub Bpe22.2 Bpe18.2).mono (by decide))).mono ?_)
       rintro e W1 ⟨uh34,rfl,h34,hb⟩
       replace F:=HM _ _ F hb
       revert Bly h32;refine mo hb ?_;intro Bly h32
       clear hb hs Bld Blq Blo Blp Bln B0 Blx h7 h11 h24 h31
       try go_wp2_with fail
       refine hK.out _ _ (HC _ F) (fun hH=>?_)
       clear hK K
       try simp only[LYp]
       try dsimp only[List.set]
       have hkey:=key6.out W1 g_y uh32 uh34 F sz_y ne_y Bly h32 h34
       rw[←HX.out,←HA.out] at hkey
       try simp only[LYp] at hkey
       try dsimp only[List.set] at hkey
       exact U_at (by kernel_rfl) (by kernel_rfl) hkey
      replace key4:=ae key4
      have key3:∀(W:World) (uh32:Value) (uh34:Value),FP W→(PV W uh32 (((pe18.2:Int):Rat)))→(PV W uh34 (((pe22.2 - pe18.2:Int):Rat)))→X 6 (LB 18 13311) ((a0.put (some 120) (uh32)).put (some 127) (uh34)) W:=by as_aux_lemma=>
       intro W uh32 uh34 F h32 h34
       rw[←HX.out,←HA.out]
       try simp only[LYp]
       try dsimp only[List.set]
       refine dq (i:=10) (j:=16) (by kernel_rfl) rfl rfl  (fun K hK=>?_) (fun K hK=>?_)
       ·obtain⟨hs,Bld,Blq,Blo,Blp,Bln,B0,Blx,h7,h11,h24,h31⟩:=(HP _).1 F
        go_simp
        (with_reducible refine (pMul h24 h34 (SzQ.fit HSF.out) (SzQ.fit (szN ((Wn.sub Bpe22.2 Bpe18.2).mono (by decide))))).mono ?_)
        rintro e W1 ⟨uh35,rfl,h35,hb⟩
        replace F:=HM _ _ F hb
        revert h32 h34;refine mo hb ?_;intro h32 h34
        clear hb hs Bld Blq Blo Blp Bln B0 Blx h7 h11 h24 h31
        try go_wp2_with fail
        refine hK.out _ _ (HC _ F) (fun hH=>?_)
        clear hK K
        try simp only[LYp]
        try dsimp only[List.set]
        have hkey:=key5.out W1 uh32 uh34 uh35 F h32 h35
        rw[←HX.out,←HA.out] at hkey
        try simp only[LYp] at hkey
        try dsimp only[List.set] at hkey
        exact U_at (by kernel_rfl) (by kernel_rfl) hkey
       go_simp
       refine aq ((HP _).1 F).1 (fun W1 hb Bly sz_y=>?_)
       have ne_y:=HE _ F
       replace F:=HM _ _ F hb
       revert h32 h34;refine mo hb ?_;intro h32 h34
       clear hb
       refine hK.out _ _ (HC _ F) (fun hH=>?_)
       clear hK K
       try simp only[LYp]
       try dsimp only[List.set]
       have hkey:=key6.out W1 W.heap.size uh32 uh34 F sz_y ne_y Bly h32 h34
       rw[←HX.out,←HA.out] at hkey
       try simp only[LYp] at hkey
       try dsimp only[List.set] at hkey
       exact U_at (by kernel_rfl) (by kernel_rfl) hkey
      replace key3:=ae key3
      have key2:∀(W:World) (g_y:Nat),FP W→(w.heap.size≤g_y)→(NE g_y)→(Bx W g_y 37 #[.bool false,.slice none 0 0,.slice none 0 0])→X 7 (LB 18 78331) (a0.put (some 21) (.pointer (some ⟨g_y,0,none⟩))) W:=by as_aux_lemma=>
       intro W g_y F sz_y ne_y Bly
       rw[←HX.out,←HA.out]
       try simp only[LYp]
       try dsimp only[List.set]
       refine U_on 2 fun K hK=>?_
       obtain⟨hs,Bld,Blq,Blo,Blp,Bln,B0,Blx,h7,h11,h24,h31⟩:=(HP _).1 F
       go_simp
       (with_reducible refine (l2_whole pe18.2 _ (Bpe18.2.mono (by decide))).mono ?_)
       rintro e W1 ⟨uh32,rfl,h32,hb⟩
       replace F:=HM _ _ F hb
       replace Bly:=Bly.mono hb
       clear hb hs Bld Blq Blo Blp Bln B0 Blx h7 h11 h24 h31
       try go_wp2_with fail
       refine hK.out _ _ (HC _ F) (fun hH=>?_)
       clear hK K
       try simp only[LYp]
       try dsimp only[List.set]
       have hkey:=key4.out W1 g_y uh32 F sz_y ne_y Bly h32
       rw[←HX.out,←HA.out] at hkey
       try simp only[LYp] at hkey
       try dsimp only[List.set] at hkey
       exact U_at (by kernel_rfl) (by kernel_rfl) hkey
      replace key2:=ae key2
      have key1:∀(W:World) (uh32:Value),FP W→(PV W uh32 (((pe18.2:Int):Rat)))→X 7 (LB 18 12799) (a0.put (some 120) (uh32)) W:=by as_aux_lemma=>
       intro W uh32 F h32
       rw[←HX.out,←HA.out]
       try simp only[LYp]
       try dsimp only[List.set]
       refine dq (i:=9) (j:=16) (by kernel_rfl) rfl rfl  (fun K hK=>?_) (fun K hK=>?_)
       ·obtain⟨hs,Bld,Blq,Blo,Blp,Bln,B0,Blx,h7,h11,h24,h31⟩:=(HP _).1 F
        go_simp
        (with_reducible refine (l2_whole (pe22.2 - pe18.2) _ ((Wn.sub Bpe22.2 Bpe18.2).mono (by decide))).mono ?_)
        rintro e W1 ⟨uh34,rfl,h34,hb⟩
        replace F:=HM _ _ F hb
        replace h32:=h32.mono hb
        clear hb hs Bld Blq Blo Blp Bln B0 Blx h7 h11 h24 h31
        try go_wp2_with fail
        refine hK.out _ _ (HC _ F) (fun hH=>?_)
        clear hK K
        try simp only[LYp]
        try dsimp only[List.set]
        have hkey:=key3.out W1 uh32 uh34 F h32 h34
        rw[←HX.out,←HA.out] at hkey
        try simp only[LYp] at hkey
        try dsimp only[List.set] at hkey
        exact U_at (by kernel_rfl) (by kernel_rfl) hkey
       go_simp
       refine aq ((HP _).1 F).1 (fun W1 hb Bly sz_y=>?_)
       have ne_y:=HE _ F
       replace F:=HM _ _ F hb
       replace h32:=h32.mono hb
       clear hb
       refine hK.out _ _ (HC _ F) (fun hH=>?_)
       clear hK K
       try simp only[LYp]
       try dsimp only[List.set]
       have hkey:=key4.out W1 W.heap.size uh32 F sz_y ne_y Bly h32
       rw[←HX.out,←HA.out] at hkey
       try simp only[LYp] at hkey
       try dsimp only[List.set] at hkey
       exact U_at (by kernel_rfl) (by kernel_rfl) hkey
      replace key1:=ae key1
      have key0:∀(W:World),FP W→X 8 (LB 18 12795) a0 W:=by as_aux_lemma=>
       intro W F
       rw[←HX.out,←HA.out]
       try simp only[LYp]
       try dsimp only[List.set]
       refine dq (i:=2) (j:=16) (by kernel_rfl) rfl rfl  (fun K hK=>?_) (fun K hK=>?_)
       ·obtain⟨hs,Bld,Blq,Blo,Blp,Bln,B0,Blx,h7,h11,h24,h31⟩:=(HP _).1 F
        go_simp
        (with_reducible refine (l2_whole pe18.2 _ (Bpe18.2.mono (by decide))).mono ?_)
        rintro e W1 ⟨uh32,rfl,h32,hb⟩
        replace F:=HM _ _ F hb
        clear hb hs Bld Blq Blo Blp Bln B0 Blx h7 h11 h24 h31
        try go_wp2_with fail
        refine hK.out _ _ (HC _ F) (fun hH=>?_)
        clear hK K
        try simp only[LYp]
        try dsimp only[List.set]
        have hkey:=key1.out W1 uh32 F h32
        rw[←HX.out,←HA.out] at hkey
        try simp only[LYp] at hkey
        try dsimp only[List.set] at hkey
        exact U_at (by kernel_rfl) (by kernel_rfl) hkey
       go_simp
       refine aq ((HP _).1 F).1 (fun W1 hb Bly sz_y=>?_)
       have ne_y:=HE _ F
       replace F:=HM _ _ F hb
       clear hb
       refine hK.out _ _ (HC _ F) (fun hH=>?_)
       clear hK K
       try simp only[LYp]
       try dsimp only[List.set]
       have hkey:=key2.out W1 W.heap.size F sz_y ne_y Bly
       rw[←HX.out,←HA.out] at hkey
       try simp only[LYp] at hkey
       try dsimp only[List.set] at hkey
       exact U_at (by kernel_rfl) (by kernel_rfl) hkey
      replace key0:=ae key0
      rw[←HX.out]
      have hkey:=key0.out w11 F
      rw[←HX.out] at hkey
      exact U_at (by kernel_rfl) (by kernel_rfl) hkey
     case rest=>
      clear hs Bld Blq Blo Blp Bln B0 Blx h7 h11 h24 h31
      obtain⟨gy,sh38,ah38,nh38,ch38,Ah38,Nh38,Ch38,rfl,hg_y,ng_y_d,ng_y_q,ng_y_o,ng_y_p,ng_y_n,ng_y_part,ng_y_x,Bly,hs,Bld,Blq,Blo,Blp,Bln,B0,Blx,h7,h11,h24,h31,h38⟩:=hcut
      obtain⟨Y,KY⟩:∃z:Rat,z=((((pe18.2:Int):Rat)) + ((((c:Int):Rat) / ((10:Int):Rat)) * (((pe22.2 - pe18.2:Int):Rat)))) - (((pe10.2:Int):Rat)):=⟨_,rfl⟩
      have SY:=ae (show SzQ 200 Y from by rw[KY];exact SzQ.mono (SzQ.sub (SzQ.add (szN (Bpe18.2.mono (by decide))) (SzQ.mul HSF.out (szN ((Wn.sub Bpe22.2 Bpe18.2).mono (by decide))))) (szN (Bpe10.2.mono (by decide)))) (by decide))
      rw[←KY] at h38
      replace KY:=ae KY
      have HFIN:=ae (show dsE l pe10≤X * X + Y * Y from by rw[HDS.out,KX.out,KY.out];have h:=di_le (l:=l) (q:=pe10) (i:=m17) (by omega) (part10 c0 c1).1 (part10 c0 c1).2;rwa [show (m17 + 1) % l.length=m21 from by rw[Hm17.out,Hm21.out];exact modS ni l.length (by omega),show ptZ l m17=pe18 from Hpe18.out.symm,show ptZ l m21=pe22 from Hpe22.out.symm] at h)
      go_upto_region 12 with fail
      obtain⟨sg42,Hsg42⟩:∃s:Int,s=sgQ ((dsE l pe10) - ((X * X) + (Y * Y))):=⟨_,rfl⟩
      replace Hsg42:=ae Hsg42
      have q43:dsE l pe10≤(X * X) + (Y * Y):=HFIN.out
      have q43_:sg42≤0:=by have h:=sq_le (dsE l pe10) ((X * X) + (Y * Y));rw[←Hsg42.out] at h;exact h.2 q43
      have q43H:=ae q43
      clear q43
      have q43d:decide (sg42≤0)=true:=decide_eq_true q43_
      refine bw (S:=fun w'=>w'.cell? ⟨w5.heap.size,0,none⟩=some (.bool sh11)∧w'.cell? ⟨w5.heap.size,1,none⟩=some (.slice ah11 nh11 ch11)∧w'.cell? ⟨w5.heap.size,2,none⟩=some (.slice Ah11 Nh11 Ch11)∧w'.cell? ⟨gx,0,none⟩=some (.bool sh31)∧w'.cell? ⟨gx,1,none⟩=some (.slice ah31 nh31 ch31)∧w'.cell? ⟨gx,2,none⟩=some (.slice Ah31 Nh31 Ch31)∧w'.cell? ⟨gy,0,none⟩=some (.bool sh38)∧w'.cell? ⟨gy,1,none⟩=some (.slice ah38 nh38 ch38)∧w'.cell? ⟨gy,2,none⟩=some (.slice Ah38 Nh38 Ch38)) (by kernel_rfl) 14 ?_
      refine cq.abs ?_
      intro w11 hW
      have hb:Below wc.heap.size wc w11:=by rw[hW];exact de _
      replace hs:=ar hs hb
      revert h38;revert h31;revert h24;revert h11;revert h7;revert Blx;revert B0;revert Bln;revert Blp;revert Blo;revert Blq;revert Bld;revert Bly;refine mo hb ?_;intro Bly Bld Blq Blo Blp Bln B0 Blx h7 h11 h24 h31 h38
      clear hb hW
      refine Blo.k3 fun B2 B3 B4=>?_
      refine Blx.k3 fun B5 B6 B7=>?_
      refine Bly.k3 fun B8 B9 Ba=>?_
      have hH:=(show w11.cell? ⟨w5.heap.size,0,none⟩=some (.bool sh11)∧w11.cell? ⟨w5.heap.size,1,none⟩=some (.slice ah11 nh11 ch11)∧w11.cell? ⟨w5.heap.size,2,none⟩=some (.slice Ah11 Nh11 Ch11)∧w11.cell? ⟨gx,0,none⟩=some (.bool sh31)∧w11.cell? ⟨gx,1,none⟩=some (.slice ah31 nh31 ch31)∧w11.cell? ⟨gx,2,none⟩=some (.slice Ah31 Nh31 Ch31)∧w11.cell? ⟨gy,0,none⟩=some (.bool sh38)∧w11.cell? ⟨gy,1,none⟩=some (.slice ah38 nh38 ch38)∧w11.cell? ⟨gy,2,none⟩=some (.slice Ah38 Nh38 Ch38) from ⟨B2,B3,B4,B5,B6,B7,B8,B9,Ba⟩)
      refine U_tq 0 134 hH ?_
      try simp only[LYp]
      try dsimp only[List.set]
      refine U_tq 1 135 hH ?_
      try simp only[LYp]
      try dsimp only[List.set]
      refine U_tq 2 136 hH ?_
      try simp only[LYp]
      try dsimp only[List.set]
      refine U_tq 4 138 hH ?_
      try simp only[LYp]
      try dsimp only[List.set]
      refine U_tq 5 139 hH ?_
      try simp only[LYp]
      try dsimp only[List.set]
      clear hH
      refine U_on 3 fun K hK=>?_
      go_simp
      (with_reducible refine (pMul h31 h31 (SzQ.fit SX.out) (SzQ.fit SX.out)).mono ?_)
      rintro e w12 ⟨_,rfl,h39,hb⟩
      obtain⟨sh39,ah39,nh39,ch39,Ah39,Nh39,Ch39,rfl⟩:=h39.shape
      replace hs:=ar hs hb
      revert h38;revert h31;revert h24;revert h11;revert h7;revert Blx;revert B0;revert Bln;revert Blp;revert Blo;revert Blq;revert Bld;revert Bly;refine mo hb ?_;intro Bly Bld Blq Blo Blp Bln B0 Blx h7 h11 h24 h31 h38
      replace B2:=ah B2 hb
      replace B3:=ah B3 hb
      replace B4:=ah B4 hb
      replace B5:=ah B5 hb
      replace B6:=ah B6 hb
      replace B7:=ah B7 hb
      replace B8:=ah B8 hb
      replace B9:=ah B9 hb
      replace Ba:=ah Ba hb
      clear hb
      try go_wp2_with fail
      refine hK.out _ _ ⟨B2,B3,B4,B5,B6,B7,B8,B9,Ba⟩ (fun hH=>?_)
      clear hK K
      try simp only[LYp]
      try dsimp only[List.set]
      clear hH
      refine U_on 6 fun K hK=>?_
      go_simp
      (with_reducible refine (pMul h38 h38 (SzQ.fit SY.out) (SzQ.fit SY.out)).mono ?_)
      rintro e w13 ⟨_,rfl,h40,hb⟩
      obtain⟨sh40,ah40,nh40,ch40,Ah40,Nh40,Ch40,rfl⟩:=h40.shape
      replace hs:=ar hs hb
      revert h38;revert h31;revert h24;revert h11;revert h7;revert Blx;revert B0;revert Bln;revert Blp;revert Blo;revert Blq;revert Bld;revert Bly;revert h39;refine mo hb ?_;intro h39 Bly Bld Blq Blo Blp Bln B0 Blx h7 h11 h24 h31 h38
      replace B2:=ah B2 hb
      replace B3:=ah B3 hb
      replace B4:=ah B4 hb
      replace B5:=ah B5 hb
      replace B6:=ah B6 hb
      replace B7:=ah B7 hb
      replace B8:=ah B8 hb
      replace B9:=ah B9 hb
      replace Ba:=ah Ba hb
      clear hb
      try go_wp2_with fail
      refine hK.out _ _ ⟨B2,B3,B4,B5,B6,B7,B8,B9,Ba⟩ (fun hH=>?_)
      clear hK K
      try simp only[LYp]
      try dsimp only[List.set]
      clear hH
      refine U_on 7 fun K hK=>?_
      go_simp
      (with_reducible refine (yi h39 h40 (SzQ.fit (SzQ.mul SX.out SX.out)) (SzQ.fit (SzQ.mul SY.out SY.out))).mono ?_)
      rintro e w14 ⟨_,rfl,h41,hb⟩
      obtain⟨sh41,ah41,nh41,ch41,Ah41,Nh41,Ch41,rfl⟩:=h41.shape
      replace hs:=ar hs hb
      revert h38;revert h31;revert h24;revert h11;revert h7;revert Blx;revert B0;revert Bln;revert Blp;revert Blo;revert Blq;revert Bld;revert Bly;revert h39;revert h40;refine mo hb ?_;intro h40 h39 Bly Bld Blq Blo Blp Bln B0 Blx h7 h11 h24 h31 h38
      replace B2:=ah B2 hb
      replace B3:=ah B3 hb
      replace B4:=ah B4 hb
      replace B5:=ah B5 hb
      replace B6:=ah B6 hb
      replace B7:=ah B7 hb
      replace B8:=ah B8 hb
      replace B9:=ah B9 hb
      replace Ba:=ah Ba hb
      clear hb
      try go_wp2_with fail
      refine hK.out _ _ ⟨B2,B3,B4,B5,B6,B7,B8,B9,Ba⟩ (fun hH=>?_)
      clear hK K
      try simp only[LYp]
      try dsimp only[List.set]
      clear hH
      refine U_on 8 fun K hK=>?_
      go_simp
      (with_reducible refine (uk h11 h41 (SzQ.fit HSD.out) (SzQ.fit (SzQ.add (SzQ.mul SX.out SX.out) (SzQ.mul SY.out SY.out)))).mono ?_)
      rintro e w15 ⟨rfl,hb⟩
      replace hs:=ar hs hb
      revert h41 h40 h39 Bly Bld Blq Blo Blp Bln B0 Blx h7 h11 h24 h31 h38;refine mo hb ?_;intro h41 h40 h39 Bly Bld Blq Blo Blp Bln B0 Blx h7 h11 h24 h31 h38
      replace B2:=ah B2 hb
      replace B3:=ah B3 hb
      replace B4:=ah B4 hb
      replace B5:=ah B5 hb
      replace B6:=ah B6 hb
      replace B7:=ah B7 hb
      replace B8:=ah B8 hb
      replace B9:=ah B9 hb
      replace Ba:=ah Ba hb
      clear hb
      rw[←Hsg42.out]
      try go_wp2_with fail
      refine hK.out _ _ ⟨B2,B3,B4,B5,B6,B7,B8,B9,Ba⟩ (fun hH=>?_)
      clear hK K
      try simp only[LYp]
      try dsimp only[List.set]
      refine U_tq 9 143 hH ?_
      try simp only[LYp]
      try dsimp only[List.set]
      refine U_tq 10 144 hH ?_
      try simp only[LYp]
      try dsimp only[List.set]
      clear hH
      refine U_on 11 fun K hK=>?_
      go_simp
      (with_reducible refine (HAW.out _).mono ?_)
      rintro e w16 ⟨rfl,hb⟩
      replace hs:=ar hs hb
      revert h41 h40 h39 Bly Bld Blq Blo Blp Bln B0 Blx h7 h11 h24 h31 h38;refine mo hb ?_;intro h41 h40 h39 Bly Bld Blq Blo Blp Bln B0 Blx h7 h11 h24 h31 h38
      replace B2:=ah B2 hb
      replace B3:=ah B3 hb
      replace B4:=ah B4 hb
      replace B5:=ah B5 hb
      replace B6:=ah B6 hb
      replace B7:=ah B7 hb
      replace B8:=ah B8 hb
      replace B9:=ah B9 hb
      replace Ba:=ah Ba hb
      clear hb
      try go_wp2_with fail
      refine hK.out _ _ ⟨B2,B3,B4,B5,B6,B7,B8,B9,Ba⟩ (fun hH=>?_)
      clear hK K
      try simp only[LYp]
      try dsimp only[List.set]
      refine U_tq 12 146 hH ?_
      try simp only[LYp]
      try dsimp only[List.set]
      refine U_tq 13 10 hH ?_
      try simp only[LYp]
      try dsimp only[List.set]
      clear hH
      refine im (by kernel_rfl) ?_
      clear B2 B3 B4 B5 B6 B7 B8 B9 Ba
      go_wp2
      go_ret
      exact⟨rfl,hs⟩
  have q6b:(ck5 == 0)=false:=beq_eq_false_iff_ne.2 (by omega)
  have q6n:(ck5 != 0)=true:=bne_iff_ne.2 (by omega)
  have q6H:=ae q6
  clear q6
  go_wp2_with fail
  with_reducible refine (HAW.out _).mono ?_
  rintro e w3 ⟨rfl,hb⟩
  replace hs:=ar hs hb
  clear hb
  go_wp2
  go_ret
  exact⟨rfl,hs⟩
 have q4b:(ck3 == 0)=false:=beq_eq_false_iff_ne.2 (by omega)
 have q4n:(ck3 != 0)=true:=bne_iff_ne.2 (by omega)
 have q4H:=ae q4
 clear q4
 go_wp2_with fail
 with_reducible refine (HAW.out _).mono ?_
 rintro e w2 ⟨rfl,hb⟩
 replace hs:=ar hs hb
 clear hb
 go_wp2
 go_ret
 exact⟨rfl,hs⟩
end Go.Proofs.YtidmjdmmpajooaaGreat
