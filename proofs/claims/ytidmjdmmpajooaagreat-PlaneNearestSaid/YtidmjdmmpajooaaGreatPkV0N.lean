/-
  Polygons with integer coordinates: points on edges, edges that meet, the error of a polygon, in the program's words and in the reference's: plain laws.
-/

set_option linter.unusedSimpArgs false
set_option linter.unusedVariables false
namespace Go.Proofs.YtidmjdmmpajooaaGreat
abbrev Pt:=Int × Int
def ptZ (l:List Pt) (i:Nat):Pt:=l.getD i (0,0)
def crZ (a b:Pt):Int:=a.1 * b.2 - a.2 * b.1
def dtZ (a b:Pt):Int:=a.1 * b.1 + a.2 * b.2
def mnZ (a b:Pt):Pt:=(a.1 - b.1,a.2 - b.2)
def sgZ (n:Int):Int:=if n < 0 then -1 else if 0 < n then 1 else 0
def sdZ (a b c:Pt):Int:=sgZ (crZ (mnZ b a) (mnZ c a))
def tnZ (a b c:Pt):Int:=(b.1 - a.1) * (c.2 - a.2) - (b.2 - a.2) * (c.1 - a.1)
theorem tn_cr (a b c:Pt):tnZ a b c=crZ (mnZ b a) (mnZ c a):=rfl
theorem sgi_zero {n:Int}:sgZ n=0↔n=0:=by unfold sgZ;split<;>(try split)<;>omega
theorem jb1 {n:Int}:0 < sgZ n↔0 < n:=by unfold sgZ;split<;>(try split)<;>omega
def hsZ (a b q:Pt):Bool:=decide (sdZ a b q=0) && decide (dtZ (mnZ a q) (mnZ b q)≤0)
def onZ (a b c:Pt):Bool:=decide (tnZ a b c=0) && (decide (min a.1 b.1≤c.1) && (decide (c.1≤max a.1 b.1) && (decide (min a.2 b.2≤c.2) && decide (c.2≤max a.2 b.2))))
theorem vw {x y:Int}:x * y≤0↔(x≤0∧0≤y)∨(0≤x∧y≤0):=by
 constructor
 ·intro h
  by_cases hx:x≤0
  ·by_cases hy:0≤y
   ·exact .inl ⟨hx,hy⟩
   ·by_cases h0:x=0
    ·subst h0;exact .inr ⟨by omega,by omega⟩
    ·have:=Int.mul_pos (show 0 < -x by omega) (show 0 < -y by omega)
     rw[Int.neg_mul_neg] at this
     omega
  ·by_cases hy:y≤0
   ·exact .inr ⟨by omega,hy⟩
   ·have:=Int.mul_pos (show 0 < x by omega) (show 0 < y by omega)
    omega
 ·rintro (⟨h1,h2⟩|⟨h1,h2⟩)
  ·have:=Int.mul_nonneg (show 0≤ -x by omega) h2
   rw[Int.neg_mul] at this;omega
  ·have:=Int.mul_nonneg h1 (show 0≤ -y by omega)
   rw[Int.mul_neg] at this;omega
theorem yg (x:Int):0≤x * x:=by
 by_cases h:0≤x
 ·exact Int.mul_nonneg h h
 ·have:=Int.mul_nonneg (show 0≤ -x by omega) (show 0≤ -x by omega)
  rwa [Int.neg_mul_neg] at this
theorem line_dot {u v:Pt} (h:u.1 * v.2=u.2 * v.1):u.1 * v.1 + u.2 * v.2≤0↔u.1 * v.1≤0∧u.2 * v.2≤0:=by
 constructor
 ·intro hs
  have e:(u.1 * v.1) * (u.2 * v.2)=(u.1 * v.2) * (u.1 * v.2):=by
   calc (u.1 * v.1) * (u.2 * v.2)=(u.1 * v.2) * (u.2 * v.1):=by ac_rfl
    _=(u.1 * v.2) * (u.1 * v.2):=by rw[h]
  have hq:=yg (u.1 * v.2)
  rw[←e] at hq
  by_cases h1:u.1 * v.1≤0
  ·refine⟨h1,?_⟩
   by_cases h2:u.2 * v.2≤0
   ·exact h2
   ·by_cases h3:u.1 * v.1=0
    ·omega
    ·have:=Int.mul_pos (show 0 < -(u.1 * v.1) by omega) (show 0 < u.2 * v.2 by omega)
     rw[Int.neg_mul] at this;omega
  ·by_cases h2:u.2 * v.2=0
   ·omega
   ·have:=Int.mul_pos (show 0 < u.1 * v.1 by omega) (show 0 < -(u.2 * v.2) by omega)
    rw[Int.mul_neg] at this;omega
 ·rintro ⟨h1,h2⟩;omega
theorem cr_line (a b q:Pt):crZ (mnZ b a) (mnZ q a)=(mnZ a q).1 * (mnZ b q).2 - (mnZ a q).2 * (mnZ b q).1:=by
 unfold crZ mnZ
 simp only
 have e:∀a1 a2 b1 b2 q1 q2:Int,(b1 - a1) * (q2 - a2) - (b2 - a2) * (q1 - a1)=(a1 - q1) * (b2 - q2) - (a2 - q2) * (b1 - q1):=by
  intro a1 a2 b1 b2 q1 q2
  simp only[Int.sub_mul,Int.mul_sub]
  have c1:=Int.mul_comm b1 a2;have c2:=Int.mul_comm b2 a1;have c3:=Int.mul_comm b1 q2;have c4:=Int.mul_comm b2 q1;have c5:=Int.mul_comm a1 q2;have c6:=Int.mul_comm a2 q1;have c7:=Int.mul_comm a1 a2;have c8:=Int.mul_comm q1 q2
  omega
 exact e _ _ _ _ _ _
theorem mw (a b q:Pt):hsZ a b q=onZ a b q:=by
 unfold hsZ onZ
 rw[Bool.eq_iff_iff]
 simp only[Bool.and_eq_true,decide_eq_true_eq]
 unfold sdZ
 rw[sgi_zero,tn_cr]
 refine and_congr_right fun h=>?_
 have h0:=cr_line a b q
 have hl:(mnZ a q).1 * (mnZ b q).2=(mnZ a q).2 * (mnZ b q).1:=by omega
 unfold dtZ
 rw[line_dot hl,vw,vw]
 unfold mnZ
 simp only
 omega
theorem sgi_mul {x y:Int}:sgZ x * sgZ y < 0↔(x < 0∧0 < y)∨(0 < x∧y < 0):=by
 unfold sgZ
 split<;>(try split)<;>(try split)<;>(try split)<;>constructor<;>intro h<;>(try omega)<;>simp at h
def meZ (a b c d:Pt):Bool:=(hsZ a b c || (hsZ a b d || (hsZ c d a || hsZ c d b))) || (decide (sdZ a b c * sdZ a b d < 0) && decide (sdZ c d a * sdZ c d b < 0))
def mtZ (a b c d:Pt):Bool:=(onZ a b c || (onZ a b d || (onZ c d a || onZ c d b))) || (decide (sgZ (tnZ a b c) * sgZ (tnZ a b d) < 0) && decide (sgZ (tnZ c d a) * sgZ (tnZ c d b) < 0))
theorem me_mt (a b c d:Pt):meZ a b c d=mtZ a b c d:=by
 unfold meZ mtZ
 rw[mw,mw,mw,mw]
 rfl
end Go.Proofs.YtidmjdmmpajooaaGreat
namespace Go.Proofs.YtidmjdmmpajooaaGreat
def rtB (p:Pt):Bool:=decide (-1048576≤p.1) && decide (p.1≤1048576) && (decide (-1048576≤p.2) && decide (p.2≤1048576))
def qm (l:List Pt) (i:Nat):Bool:=
 decide (crZ (mnZ (ptZ l ((i + l.length - 1) % l.length)) (ptZ l i)) (mnZ (ptZ l ((i + 1) % l.length)) (ptZ l i))=0) && decide (0≤dtZ (mnZ (ptZ l ((i + l.length - 1) % l.length)) (ptZ l i)) (mnZ (ptZ l ((i + 1) % l.length)) (ptZ l i)))
def sw (l:List Pt) (i:Nat):Bool:=
 decide (tnZ (ptZ l i) (ptZ l ((i + 1) % l.length)) (ptZ l ((i + 1 + 1) % l.length))=0) && decide (0≤dtZ (mnZ (ptZ l i) (ptZ l ((i + 1) % l.length))) (mnZ (ptZ l ((i + 1 + 1) % l.length)) (ptZ l ((i + 1) % l.length))))
def oz (l:List Pt) (i k:Nat):Bool:=decide (i + 1 < k) && (!(decide (i=0) && decide (k=l.length - 1)) && meZ (ptZ l i) (ptZ l ((i + 1) % l.length)) (ptZ l k) (ptZ l ((k + 1) % l.length)))
def kr (l:List Pt) (i k:Nat):Bool:=decide (i + 2≤k) && (decide ((k + 1) % l.length≠i) && mtZ (ptZ l i) (ptZ l ((i + 1) % l.length)) (ptZ l k) (ptZ l ((k + 1) % l.length)))
def uj (l:List Pt) (i:Nat):Bool:=qm l i || (List.range l.length).any (oz l i)
def zp (l:List Pt) (i:Nat):Bool:=sw l i || (List.range l.length).any (kr l i)
def fl (l:List Pt):Int:=if l.length < 3 then 4 else if 16 < l.length then 4 else if l.all rtB=true then (if (List.range l.length).any (uj l)=true then 20 else 0) else 1
def rl (l:List Pt):Int:=if l.length < 3 then 4 else if 16 < l.length then 4 else if l.all rtB=true then (if (List.range l.length).any (zp l)=true then 20 else 0) else 1
end Go.Proofs.YtidmjdmmpajooaaGreat
namespace Go.Proofs.YtidmjdmmpajooaaGreat
def twK (l:List Pt):Nat→Int
 | 0=>0
 | k + 1=>twK l k + crZ (ptZ l k) (ptZ l ((k + 1) % l.length))
def twZ (l:List Pt):Int:=twK l l.length
def ie (a b q:Pt):Bool:=let lo:=if b.2 < a.2 then b else a;let hi:=if b.2 < a.2 then a else b;decide (lo.2≤q.2) && (decide (q.2 < hi.2) && decide (0 < tnZ lo hi q))
def whK (l:List Pt) (q:Pt):Nat→Int
 | 0=> -1
 | k + 1=>if ie (ptZ l k) (ptZ l ((k + 1) % l.length)) q=true then -(whK l q k) else whK l q k
def onB (l:List Pt) (q:Pt):Nat→Bool
 | 0=>false
 | k + 1=>onB l q k || onZ (ptZ l k) (ptZ l ((k + 1) % l.length)) q
def whZ (l:List Pt) (q:Pt):Int:=if onB l q l.length=true then 0 else whK l q l.length
end Go.Proofs.YtidmjdmmpajooaaGreat
namespace Go.Proofs.YtidmjdmmpajooaaGreat
theorem wh_b (l : List Pt) (q : Pt) : ∀ k, -1 ≤ whK l q k ∧ whK l q k ≤ 1
  | 0 => by show -1 ≤ (-1 : Int) ∧ (-1 : Int) ≤ 1; omega
  | k + 1 => by
    have h := wh_b l q k
    unfold whK
    split <;> omega
theorem on_up {l : List Pt} {q : Pt} {k : Nat} (h : onB l q k = true) : ∀ n, k ≤ n → onB l q n = true
  | 0, hn => by obtain rfl : k = 0 := by omega
                exact h
  | n + 1, hn => by
    rcases Nat.lt_or_eq_of_le hn with hn | rfl
    · show (onB l q n || _) = true
      rw [on_up h n (by omega)]; rfl
    · exact h
theorem ix {l : List Pt} {q : Pt} {k : Nat} (h : onB l q k = false) : onB l q (k + 1) = onZ (ptZ l k) (ptZ l ((k + 1) % l.length)) q := by
  show (onB l q k || _) = _
  rw [h]; rfl
theorem wh_on {l : List Pt} {q : Pt} {k : Nat} (hk : k < l.length) (h : onZ (ptZ l k) (ptZ l ((k + 1) % l.length)) q = true) : whZ l q = 0 := by
  unfold whZ
  rw [if_pos (on_up (k := k + 1) (by show (onB l q k || _) = true; rw [h, Bool.or_true]) _ (by omega))]
theorem wh_end {l : List Pt} {q : Pt} {k : Nat} (hk : k = l.length) (h : onB l q k = false) : whZ l q = whK l q k := by
  subst hk
  unfold whZ
  rw [if_neg (by rw [h]; decide)]
theorem wh_t {l : List Pt} {q : Pt} {k : Nat} (h : ie (ptZ l k) (ptZ l ((k + 1) % l.length)) q = true) : whK l q (k + 1) = -whK l q k := if_pos h
theorem wh_f {l : List Pt} {q : Pt} {k : Nat} (h : ie (ptZ l k) (ptZ l ((k + 1) % l.length)) q = false) : whK l q (k + 1) = whK l q k := if_neg (by rw [h]; decide)
theorem mi {a b q : Pt} (h : b.2 < a.2) : ie a b q = (decide (b.2 ≤ q.2) && (decide (q.2 < a.2) && decide (0 < tnZ b a q))) := by unfold ie; rw [if_pos h, if_pos h]
theorem mh {a b q : Pt} (h : ¬ b.2 < a.2) : ie a b q = (decide (a.2 ≤ q.2) && (decide (q.2 < b.2) && decide (0 < tnZ a b q))) := by unfold ie; rw [if_neg h, if_neg h]
end Go.Proofs.YtidmjdmmpajooaaGreat
namespace Go.Proofs.YtidmjdmmpajooaaGreat
end Go.Proofs.YtidmjdmmpajooaaGreat
namespace Go.Proofs.YtidmjdmmpajooaaGreat
end Go.Proofs.YtidmjdmmpajooaaGreat
namespace Go.Proofs.YtidmjdmmpajooaaGreat
end Go.Proofs.YtidmjdmmpajooaaGreat
namespace Go.Proofs.YtidmjdmmpajooaaGreat
def frZ (p q:Pt):Int:=dtZ (mnZ q p) (mnZ q p)
def dsQ (a b q:Pt):Rat:=
 if dtZ (mnZ q a) (mnZ b a)≤0 then (frZ a q:Rat) else if dtZ (mnZ b a) (mnZ b a)≤dtZ (mnZ q a) (mnZ b a) then (frZ b q:Rat) else ((crZ (mnZ b a) (mnZ q a):Int):Rat) * ((crZ (mnZ b a) (mnZ q a):Int):Rat) / ((dtZ (mnZ b a) (mnZ b a):Int):Rat)
theorem fr_nn (p q:Pt):0≤frZ p q:=by
 unfold frZ dtZ mnZ
 have h1:=yg (q.1 - p.1);have h2:=yg (q.2 - p.2)
 simp only;omega
theorem ds_nn (a b q:Pt):0≤dsQ a b q:=by
 unfold dsQ
 split
 ·exact Rat.intCast_nonneg.2 (fr_nn _ _)
 ·split
  ·exact Rat.intCast_nonneg.2 (fr_nn _ _)
  ·have h1:(0:Rat)≤((crZ (mnZ b a) (mnZ q a):Int):Rat) * ((crZ (mnZ b a) (mnZ q a):Int):Rat):=by
    rw[←Rat.intCast_mul];exact Rat.intCast_nonneg.2 (yg _)
   have h2:(0:Rat)≤((dtZ (mnZ b a) (mnZ b a):Int):Rat):=Rat.intCast_nonneg.2 (fr_nn a b)
   by_cases h3:((dtZ (mnZ b a) (mnZ b a):Int):Rat)=0
   ·rw[h3,Rat.div_def,Rat.inv_zero,Rat.mul_zero];exact Rat.le_refl
   ·refine Rat.not_lt.1 fun h4=>?_
    have:=(Rat.div_lt_iff (show 0 < ((dtZ (mnZ b a) (mnZ b a):Int):Rat) by grind)).1 h4
    rw[Rat.zero_mul] at this
    grind
def bdQ (l:List Pt) (q:Pt):Nat→Rat
 | 0=>0
 | k + 1=>if k=0 then dsQ (ptZ l k) (ptZ l ((k + 1) % l.length)) q else if dsQ (ptZ l k) (ptZ l ((k + 1) % l.length)) q < bdQ l q k then dsQ (ptZ l k) (ptZ l ((k + 1) % l.length)) q else bdQ l q k
def diQ (l:List Pt) (q:Pt):Rat:=if 0≤whZ l q then 0 else bdQ l q l.length
end Go.Proofs.YtidmjdmmpajooaaGreat
namespace Go.Proofs.YtidmjdmmpajooaaGreat
theorem ik_pos {k s:Int} (hk:0 < k) (h:0 < k * s):0 < s:=by
 refine Decidable.byContradiction fun c=>?_
 have:=Int.mul_nonneg (Int.le_of_lt hk) (show 0≤ -s by omega)
 rw[Int.mul_neg] at this;omega
theorem ik_neg {k s:Int} (hk:0 < k) (h:k * s < 0):s < 0:=by
 have:=ik_pos hk (s:= -s) (by rw[Int.mul_neg];omega)
 omega
theorem ip_pp {k s:Int} (hk:0 < k) (h:0 < s):0 < k * s:=Int.mul_pos hk h
theorem ip_pn {k s:Int} (hk:0 < k) (h:s < 0):k * s < 0:=by
 have:=Int.mul_pos hk (show 0 < -s by omega);rw[Int.mul_neg] at this;omega
theorem ip_zp {k s:Int} (hk:0≤k) (h:0≤s):0≤k * s:=Int.mul_nonneg hk h
theorem ip_zn {k s:Int} (hk:0≤k) (h:s≤0):k * s≤0:=by
 have:=Int.mul_nonneg hk (show 0≤ -s by omega);rw[Int.mul_neg] at this;omega
theorem ip_np {k s:Int} (hk:k≤0) (h:0≤s):k * s≤0:=by rw[Int.mul_comm];exact ip_zn h hk
theorem ip_nn {k s:Int} (hk:k≤0) (h:s≤0):0≤k * s:=by
 have:=Int.mul_nonneg (show 0≤ -k by omega) (show 0≤ -s by omega);rw[Int.neg_mul_neg] at this;omega
theorem iq_pos {k s:Int} (hk:k≤0) (h:0 < k * s):s < 0:=by
 refine Decidable.byContradiction fun c=>?_
 have:=ip_np hk (show 0≤s by omega);omega
theorem iq_neg {k s:Int} (hk:k≤0) (h:k * s < 0):0 < s:=by
 refine Decidable.byContradiction fun c=>?_
 have:=ip_nn hk (show s≤0 by omega);omega
theorem on_y {a b q:Pt} (hab:a.2 < b.2) (hT:tnZ a b q=0) (h1:a.2≤q.2) (h2:q.2≤b.2):onZ a b q=true:=by
 have x:min a.1 b.1≤q.1∧q.1≤max a.1 b.1:=by
  unfold tnZ at hT
  have e1:(b.2 - a.2) * (q.1 - a.1)=(q.2 - a.2) * (b.1 - a.1):=by grind
  have e2:(b.2 - a.2) * (b.1 - q.1)=(b.2 - q.2) * (b.1 - a.1):=by grind
  by_cases c:a.1≤b.1
  ·have p1:=ip_zp (show 0≤q.2 - a.2 by omega) (show 0≤b.1 - a.1 by omega)
   have p2:=ip_zp (show 0≤b.2 - q.2 by omega) (show 0≤b.1 - a.1 by omega)
   have q1:¬ q.1 - a.1 < 0:=fun k=>by have:=ip_pn (show 0 < b.2 - a.2 by omega) k;omega
   have q2:¬ b.1 - q.1 < 0:=fun k=>by have:=ip_pn (show 0 < b.2 - a.2 by omega) k;omega
   omega
  ·have p1:=ip_zn (show 0≤q.2 - a.2 by omega) (show b.1 - a.1≤0 by omega)
   have p2:=ip_zn (show 0≤b.2 - q.2 by omega) (show b.1 - a.1≤0 by omega)
   have q1:¬ 0 < q.1 - a.1:=fun k=>by have:=ip_pp (show 0 < b.2 - a.2 by omega) k;omega
   have q2:¬ 0 < b.1 - q.1:=fun k=>by have:=ip_pp (show 0 < b.2 - a.2 by omega) k;omega
   omega
 unfold onZ
 rw[decide_eq_true hT,decide_eq_true x.1,decide_eq_true x.2,decide_eq_true (show min a.2 b.2≤q.2 by omega),decide_eq_true (show q.2≤max a.2 b.2 by omega)]
 rfl
theorem on_x {a b q:Pt} (h1:a.2=q.2) (h2:b.2=q.2) (hx:min a.1 b.1≤q.1∧q.1≤max a.1 b.1):onZ a b q=true:=by
 have hT:tnZ a b q=0:=by unfold tnZ;rw[h1,h2];simp
 unfold onZ
 rw[decide_eq_true hT,decide_eq_true hx.1,decide_eq_true hx.2,decide_eq_true (show min a.2 b.2≤q.2 by omega),decide_eq_true (show q.2≤max a.2 b.2 by omega)]
 rfl
structure Off (a b u v:Pt):Prop where
 u0:¬ onZ a b u=true
 v0:¬ onZ a b v=true
 a0:¬ onZ u v a=true
 b0:¬ onZ u v b=true
 x0:¬ (((tnZ a b u < 0∧0 < tnZ a b v)∨(0 < tnZ a b u∧tnZ a b v < 0))∧((tnZ u v a < 0∧0 < tnZ u v b)∨(0 < tnZ u v a∧tnZ u v b < 0)))
theorem Off.of {a b u v:Pt} (h:meZ a b u v=false):Off a b u v:=by
 rw[me_mt] at h
 unfold mtZ at h
 rw[Bool.or_eq_false_iff,Bool.or_eq_false_iff,Bool.or_eq_false_iff,Bool.or_eq_false_iff] at h
 obtain⟨⟨h1,h2,h3,h4⟩,h5⟩:=h
 refine⟨by rw[h1];decide,by rw[h2];decide,by rw[h3];decide,by rw[h4];decide,fun h=>?_⟩
 rw[decide_eq_true (sgi_mul.2 h.1),decide_eq_true (sgi_mul.2 h.2)] at h5
 cases h5
def inS (u v p:Pt):Bool:=decide (u.2 < p.2) && (decide (p.2≤v.2) && decide (tnZ u v p < 0))
def crS (a b q:Pt):Bool:=decide (a.2≤q.2) && (decide (q.2 < b.2) && decide (0 < tnZ a b q))
theorem bsd {a b c:Prop} [Decidable a] [Decidable b] [Decidable c]:(decide a && (decide b && decide c))=true↔a∧b∧c:=by simp
theorem b3 {p q r:Prop} [Decidable p] [Decidable q] [Decidable r]:(decide p && (decide q && decide r))=decide (p∧q∧r):=by
 rw[Bool.eq_iff_iff,bsd,decide_eq_true_eq]
theorem core {a b u v:Pt} (h1:a.2≤b.2) (h2:u.2≤v.2) (o:Off a b u v):(crS a b u ^^ crS a b v)=(inS u v a ^^ inS u v b):=by
 have r1:(b.2 - a.2) * tnZ u v a + (v.2 - u.2) * tnZ a b u=(a.2 - u.2) * (tnZ a b u - tnZ a b v):=by unfold tnZ;grind
 have r2:(b.2 - a.2) * tnZ u v a + (v.2 - u.2) * tnZ a b v=(a.2 - v.2) * (tnZ a b u - tnZ a b v):=by unfold tnZ;grind
 have r3:(b.2 - a.2) * tnZ u v b + (v.2 - u.2) * tnZ a b u=(b.2 - u.2) * (tnZ a b u - tnZ a b v):=by unfold tnZ;grind
 have r4:(b.2 - a.2) * tnZ u v b + (v.2 - u.2) * tnZ a b v=(b.2 - v.2) * (tnZ a b u - tnZ a b v):=by unfold tnZ;grind
 have r5:tnZ u v b - tnZ u v a=tnZ a b u - tnZ a b v:=by unfold tnZ;grind
 have x0:=o.x0
 have yu:a.2≤u.2→u.2 < b.2→tnZ a b u≠0:=fun k1 k2 k=>o.u0 (on_y (by omega) k k1 (by omega))
 have yv:a.2≤v.2→v.2 < b.2→tnZ a b v≠0:=fun k1 k2 k=>o.v0 (on_y (by omega) k k1 (by omega))
 have ya:u.2 < a.2→a.2≤v.2→tnZ u v a≠0:=fun k1 k2 k=>o.a0 (on_y (by omega) k (by omega) k2)
 have yb:u.2 < b.2→b.2≤v.2→tnZ u v b≠0:=fun k1 k2 k=>o.b0 (on_y (by omega) k (by omega) k2)
 have xa:a.2=u.2→a.2=v.2→a.2 < b.2→((0 < tnZ a b u∧tnZ a b v < 0)∨(tnZ a b u < 0∧0 < tnZ a b v))→False:=fun k1 k2 k3 k=>by
  have e1:tnZ a b u=(b.2 - a.2) * (a.1 - u.1):=by unfold tnZ;rw[k1];grind
  have e2:tnZ a b v=(b.2 - a.2) * (a.1 - v.1):=by unfold tnZ;rw[k2];grind
  rw[e1,e2] at k
  refine o.a0 (on_x k1.symm k2.symm ?_)
  rcases k with ⟨k,k'⟩|⟨k,k'⟩
  ·have:=ik_pos (by omega) k;have:=ik_neg (by omega) k';omega
  ·have:=ik_neg (by omega) k;have:=ik_pos (by omega) k';omega
 have xv:a.2=v.2→b.2=v.2→u.2 < v.2→((0 < tnZ u v a∧tnZ u v b < 0)∨(tnZ u v a < 0∧0 < tnZ u v b))→False:=fun k1 k2 k3 k=>by
  have e1:tnZ u v a=(v.2 - u.2) * (v.1 - a.1):=by unfold tnZ;rw[k1];grind
  have e2:tnZ u v b=(v.2 - u.2) * (v.1 - b.1):=by unfold tnZ;rw[k2];grind
  rw[e1,e2] at k
  refine o.v0 (on_x k1 k2 ?_)
  rcases k with ⟨k,k'⟩|⟨k,k'⟩
  ·have:=ik_pos (by omega) k;have:=ik_neg (by omega) k';omega
  ·have:=ik_neg (by omega) k;have:=ik_pos (by omega) k';omega
 unfold crS inS
 rw[b3,b3,b3,b3]
 clear o
 generalize tnZ a b u=tu at *
 generalize tnZ a b v=tv at *
 generalize tnZ u v a=sa at *
 generalize tnZ u v b=sb at *
 have key:((a.2≤u.2∧u.2 < b.2∧0 < tu)↔¬ (a.2≤v.2∧v.2 < b.2∧0 < tv))↔((u.2 < a.2∧a.2≤v.2∧sa < 0)↔¬ (u.2 < b.2∧b.2≤v.2∧sb < 0)):=by
  by_cases c1:b.2≤u.2
  ·exact⟨fun h=>by exfalso;omega,fun h=>by exfalso;omega⟩
  by_cases c2:v.2 < a.2
  ·exact⟨fun h=>by exfalso;omega,fun h=>by exfalso;omega⟩
  by_cases c3:a.2≤u.2
  ·by_cases c4:b.2≤v.2
   ·
    have k1:0 < tu→sb < 0:=fun t=>Decidable.byContradiction fun s=>by
     have s':=yb (by omega) c4
     have p1:=ip_pp (show 0 < b.2 - a.2 by omega) (show 0 < sb by omega)
     have p2:=ip_pp (show 0 < v.2 - u.2 by omega) t
     have D:=ik_pos (show 0 < b.2 - u.2 by omega) (s:=tu - tv) (by omega)
     have p3:=ip_np (show a.2 - u.2≤0 by omega) (Int.le_of_lt D)
     have p4:=ip_np (show b.2 - v.2≤0 by omega) (Int.le_of_lt D)
     have q1:=ik_neg (show 0 < b.2 - a.2 by omega) (s:=sa) (by omega)
     have q2:=ik_neg (show 0 < v.2 - u.2 by omega) (s:=tv) (by omega)
     exact x0 ⟨by omega,by omega⟩
    have k2:sb < 0→0 < tu:=fun s=>Decidable.byContradiction fun t=>by
     have t':=yu c3 (by omega)
     have p1:=ip_pn (show 0 < b.2 - a.2 by omega) s
     have p2:=ip_pn (show 0 < v.2 - u.2 by omega) (show tu < 0 by omega)
     have D:=ik_neg (show 0 < b.2 - u.2 by omega) (s:=tu - tv) (by omega)
     have p3:=ip_nn (show a.2 - u.2≤0 by omega) (Int.le_of_lt D)
     have p4:=ip_nn (show b.2 - v.2≤0 by omega) (Int.le_of_lt D)
     have q1:=ik_pos (show 0 < b.2 - a.2 by omega) (s:=sa) (by omega)
     have q2:=ik_pos (show 0 < v.2 - u.2 by omega) (s:=tv) (by omega)
     exact x0 ⟨by omega,by omega⟩
    omega
   ·
    have k1:0 < tu→0 < tv:=fun t=>Decidable.byContradiction fun s=>by
     have s':=yv (by omega) (by omega)
     have p1:=ip_np (show a.2 - u.2≤0 by omega) (show 0≤tu - tv by omega)
     have p2:=ip_zp (show 0≤v.2 - u.2 by omega) (Int.le_of_lt t)
     have p3:=ip_pp (show 0 < b.2 - v.2 by omega) (show 0 < tu - tv by omega)
     have p4:=ip_zn (show 0≤v.2 - u.2 by omega) (show tv≤0 by omega)
     have q2:=ik_pos (show 0 < b.2 - a.2 by omega) (s:=sb) (by omega)
     have q1:¬ 0 < sa:=fun k=>by have:=ip_pp (show 0 < b.2 - a.2 by omega) k;omega
     by_cases z:sa=0
     ·have z1:(b.2 - a.2) * sa=0:=by rw[z,Int.mul_zero]
      have y1:¬ a.2 - u.2 < 0:=fun k=>by have:=ip_pp (show 0 < -(a.2 - u.2) by omega) (show 0 < tu - tv by omega);rw[Int.neg_mul] at this;omega
      have y2:¬ 0 < v.2 - u.2:=fun k=>by have:=ip_pp k t;omega
      exact xa (by omega) (by omega) (by omega) (.inl ⟨t,by omega⟩)
     ·exact x0 ⟨by omega,by omega⟩
    have k2:0 < tv→0 < tu:=fun t=>Decidable.byContradiction fun s=>by
     have s':=yu c3 (by omega)
     have p1:=ip_nn (show a.2 - u.2≤0 by omega) (show tu - tv≤0 by omega)
     have p2:=ip_zn (show 0≤v.2 - u.2 by omega) (show tu≤0 by omega)
     have p3:=ip_pn (show 0 < b.2 - v.2 by omega) (show tu - tv < 0 by omega)
     have p4:=ip_zp (show 0≤v.2 - u.2 by omega) (Int.le_of_lt t)
     have q2:=ik_neg (show 0 < b.2 - a.2 by omega) (s:=sb) (by omega)
     have q1:¬ sa < 0:=fun k=>by have:=ip_pn (show 0 < b.2 - a.2 by omega) k;omega
     by_cases z:sa=0
     ·have z1:(b.2 - a.2) * sa=0:=by rw[z,Int.mul_zero]
      have y1:¬ a.2 - u.2 < 0:=fun k=>by have:=ip_pn (show 0 < -(a.2 - u.2) by omega) (show tu - tv < 0 by omega);rw[Int.neg_mul] at this;omega
      have y2:¬ 0 < v.2 - u.2:=fun k=>by have:=ip_pn k (show tu < 0 by omega);omega
      exact xa (by omega) (by omega) (by omega) (.inr ⟨by omega,t⟩)
     ·exact x0 ⟨by omega,by omega⟩
    omega
  ·by_cases c4:b.2≤v.2
   ·
    have k1:sa < 0→sb < 0:=fun t=>Decidable.byContradiction fun s=>by
     have s':=yb (by omega) c4
     have p1:=ip_pp (show 0 < a.2 - u.2 by omega) (show 0 < tu - tv by omega)
     have p2:=ip_zn (show 0≤b.2 - a.2 by omega) (Int.le_of_lt t)
     have p3:=ip_np (show b.2 - v.2≤0 by omega) (show 0≤tu - tv by omega)
     have p4:=ip_zp (show 0≤b.2 - a.2 by omega) (show 0≤sb by omega)
     have q1:=ik_pos (show 0 < v.2 - u.2 by omega) (s:=tu) (by omega)
     have q2:¬ 0 < tv:=fun k=>by have:=ip_pp (show 0 < v.2 - u.2 by omega) k;omega
     by_cases z:tv=0
     ·have z1:(v.2 - u.2) * tv=0:=by rw[z,Int.mul_zero]
      have y1:¬ b.2 - v.2 < 0:=fun k=>by have:=ip_pp (show 0 < -(b.2 - v.2) by omega) (show 0 < tu - tv by omega);rw[Int.neg_mul] at this;omega
      have y2:¬ 0 < b.2 - a.2:=fun k=>by have:=ip_pp k (show 0 < sb by omega);omega
      exact xv (by omega) (by omega) (by omega) (.inr ⟨t,by omega⟩)
     ·exact x0 ⟨by omega,by omega⟩
    have k2:sb < 0→sa < 0:=fun t=>Decidable.byContradiction fun s=>by
     have s':=ya (by omega) (by omega)
     have p1:=ip_pn (show 0 < a.2 - u.2 by omega) (show tu - tv < 0 by omega)
     have p2:=ip_zp (show 0≤b.2 - a.2 by omega) (show 0≤sa by omega)
     have p3:=ip_nn (show b.2 - v.2≤0 by omega) (show tu - tv≤0 by omega)
     have p4:=ip_zn (show 0≤b.2 - a.2 by omega) (Int.le_of_lt t)
     have q1:=ik_neg (show 0 < v.2 - u.2 by omega) (s:=tu) (by omega)
     have q2:¬ tv < 0:=fun k=>by have:=ip_pn (show 0 < v.2 - u.2 by omega) k;omega
     by_cases z:tv=0
     ·have z1:(v.2 - u.2) * tv=0:=by rw[z,Int.mul_zero]
      have y1:¬ b.2 - v.2 < 0:=fun k=>by have:=ip_pn (show 0 < -(b.2 - v.2) by omega) (show tu - tv < 0 by omega);rw[Int.neg_mul] at this;omega
      have y2:¬ 0 < b.2 - a.2:=fun k=>by have:=ip_pn k t;omega
      exact xv (by omega) (by omega) (by omega) (.inl ⟨by omega,t⟩)
     ·exact x0 ⟨by omega,by omega⟩
    omega
   ·
    have k1:0 < tv→sa < 0:=fun t=>Decidable.byContradiction fun s=>by
     have s':=ya (by omega) (by omega)
     have p1:=ip_pp (show 0 < b.2 - a.2 by omega) (show 0 < sa by omega)
     have p2:=ip_pp (show 0 < v.2 - u.2 by omega) t
     have D:=iq_pos (show a.2 - v.2≤0 by omega) (s:=tu - tv) (by omega)
     have p3:=ip_pn (show 0 < a.2 - u.2 by omega) D
     have p4:=ip_pn (show 0 < b.2 - v.2 by omega) D
     have q1:=ik_neg (show 0 < v.2 - u.2 by omega) (s:=tu) (by omega)
     have q2:=ik_neg (show 0 < b.2 - a.2 by omega) (s:=sb) (by omega)
     exact x0 ⟨by omega,by omega⟩
    have k2:sa < 0→0 < tv:=fun s=>Decidable.byContradiction fun t=>by
     have t':=yv (by omega) (by omega)
     have p1:=ip_pn (show 0 < b.2 - a.2 by omega) s
     have p2:=ip_pn (show 0 < v.2 - u.2 by omega) (show tv < 0 by omega)
     have D:=iq_neg (show a.2 - v.2≤0 by omega) (s:=tu - tv) (by omega)
     have p3:=ip_pp (show 0 < a.2 - u.2 by omega) D
     have p4:=ip_pp (show 0 < b.2 - v.2 by omega) D
     have q1:=ik_pos (show 0 < v.2 - u.2 by omega) (s:=tu) (by omega)
     have q2:=ik_pos (show 0 < b.2 - a.2 by omega) (s:=sb) (by omega)
     exact x0 ⟨by omega,by omega⟩
    omega
 clear r1 r2 r3 r4 r5 x0 yu yv ya yb xa xv
 have dx:∀{p q:Prop} [Decidable p] [Decidable q],((decide p ^^ decide q)=true)↔(p↔¬ q):=by
  intro p q _ _
  by_cases hp:p<;>by_cases hq:q<;>simp[hp,hq]
 rw[Bool.eq_iff_iff,dx,dx]
 exact key
theorem cr_sym (a b q:Pt):ie a b q=if b.2 < a.2 then crS b a q else crS a b q:=by
 unfold ie crS
 by_cases h:b.2 < a.2
 ·simp only[if_pos h]
 ·simp only[if_neg h]
def inP (u v p:Pt):Bool:=if v.2 < u.2 then inS v u p else inS u v p
theorem off_e {a b u v:Pt} (h:Off a b u v):Off b a u v:=by
 have s1:∀q,onZ b a q=onZ a b q:=fun q=>by
  have e:tnZ b a q= -tnZ a b q:=by unfold tnZ;grind
  unfold onZ
  rw[e,Int.min_comm,Int.max_comm,Int.min_comm b.2,Int.max_comm b.2,show decide (-tnZ a b q=0)=decide (tnZ a b q=0) from decide_eq_decide.2 (by omega)]
 have e:∀q,tnZ b a q= -tnZ a b q:=fun q=>by unfold tnZ;grind
 refine⟨by rw[s1];exact h.u0,by rw[s1];exact h.v0,h.b0,h.a0,fun k=>h.x0 ?_⟩
 rw[e,e] at k
 omega
theorem off_w {a b u v:Pt} (h:Off a b u v):Off a b v u:=by
 have s1:∀q,onZ v u q=onZ u v q:=fun q=>by
  have e:tnZ v u q= -tnZ u v q:=by unfold tnZ;grind
  unfold onZ
  rw[e,Int.min_comm,Int.max_comm,Int.min_comm v.2,Int.max_comm v.2,show decide (-tnZ u v q=0)=decide (tnZ u v q=0) from decide_eq_decide.2 (by omega)]
 have e:∀q,tnZ v u q= -tnZ u v q:=fun q=>by unfold tnZ;grind
 refine⟨h.v0,h.u0,by rw[s1];exact h.a0,by rw[s1];exact h.b0,fun k=>h.x0 ?_⟩
 rw[e,e] at k
 omega
theorem cross_in {a b u v:Pt} (o:Off a b u v):(ie a b u ^^ ie a b v)=(inP u v a ^^ inP u v b):=by
 have w:∀{a b:Pt},a.2≤b.2→Off a b u v→(crS a b u ^^ crS a b v)=(inP u v a ^^ inP u v b):=fun {a b} h o=>by
  unfold inP
  by_cases k:v.2 < u.2
  ·rw[if_pos k,if_pos k,←core h (by omega) (off_w o),Bool.xor_comm]
  ·rw[if_neg k,if_neg k,←core h (by omega) o]
 rw[cr_sym,cr_sym]
 by_cases h:b.2 < a.2
 ·rw[if_pos h,if_pos h,w (by omega) (off_e o),Bool.xor_comm]
 ·rw[if_neg h,if_neg h,w (by omega) o]
theorem whK_sg (l:List Pt) (q:Pt) (k:Nat):whK l q k=1∨whK l q k= -1:=by
 induction k with
 | zero=>exact .inr rfl
 | succ k ih=>
  by_cases h:ie (ptZ l k) (ptZ l ((k + 1) % l.length)) q=true
  ·rw[wh_t h];omega
  ·rw[wh_f (Bool.eq_false_iff.2 h)];exact ih
theorem wh_way {l:List Pt} {u v:Pt} (h:∀i,i < l.length→meZ (ptZ l i) (ptZ l ((i + 1) % l.length)) u v=false):whZ l u=whZ l v:=by
 have n1:∀k,k≤l.length→onB l u k=false∧onB l v k=false:=by
  intro k
  induction k with
  | zero=>intro _;exact⟨rfl,rfl⟩
  | succ k ih=>
   intro hk
   have o:=Off.of (h k (by omega))
   have i:=ih (by omega)
   exact⟨by show (onB l u k || _)=false;rw[i.1,Bool.false_or];exact Bool.eq_false_iff.2 o.u0,by show (onB l v k || _)=false;rw[i.2,Bool.false_or];exact Bool.eq_false_iff.2 o.v0⟩
 have n2:∀k,k≤l.length→(whK l u k=whK l v k↔inP u v (ptZ l 0)=inP u v (ptZ l (k % l.length))):=by
  intro k
  induction k with
  | zero=>intro _;rw[Nat.zero_mod];exact⟨fun _=>rfl,fun _=>rfl⟩
  | succ k ih=>
   intro hk
   have c:=cross_in (Off.of (h k (by omega)))
   have i:=ih (by omega)
   rw[Nat.mod_eq_of_lt (show k < l.length by omega)] at i
   have su:=whK_sg l u k;have sv:=whK_sg l v k
   show (if _ then _ else _)=(if _ then _ else _)↔_
   revert c i
   generalize ie (ptZ l k) (ptZ l ((k + 1) % l.length)) u=c1
   generalize ie (ptZ l k) (ptZ l ((k + 1) % l.length)) v=c2
   generalize inP u v (ptZ l k)=d1
   generalize inP u v (ptZ l ((k + 1) % l.length))=d2
   generalize inP u v (ptZ l 0)=d0
   revert su sv
   generalize whK l u k=x
   generalize whK l v k=y
   intro su sv c i
   cases c1<;>cases c2<;>cases d1<;>cases d2<;>cases d0<;>simp at c i ⊢<;>omega
 by_cases z:l.length=0
 ·have e:l=[]:=List.length_eq_zero_iff.1 z
  subst e;rfl
 ·have e:=(n2 l.length (Nat.le_refl _)).2 (by rw[Nat.mod_self])
  rw[wh_end rfl (n1 l.length (Nat.le_refl _)).1,wh_end rfl (n1 l.length (Nat.le_refl _)).2,e]
end Go.Proofs.YtidmjdmmpajooaaGreat
namespace Go.Proofs.YtidmjdmmpajooaaGreat.Dg
def val (B:Nat):List Nat→Nat
 | []=>0
 | d ::r=>d + B * val B r
def cj (B:Nat) (l:List Nat):Prop:=∀d∈l,d < B
def bi (B:Nat) (l:List Nat):Prop:=cj B l∧(0 < l.length→l[l.length - 1]?.getD 0≠0)
theorem il (B:Nat):∀l m:List Nat,val B (l ++ m)=val B l + B ^ l.length * val B m
 | [],m=>by simp[val]
 | d ::r,m=>by
  simp only[List.cons_append,val,il B r m,List.length_cons,Nat.pow_succ]
  grind
theorem dn (B:Nat) (l:List Nat) (k:Nat) (h:k < l.length):val B (l.take (k + 1))=val B (l.take k) + B ^ k * l[k]?.getD 0:=by
 rw[List.take_succ_eq_append_getElem h,il]
 simp[val,List.getElem?_eq_getElem h,Nat.min_eq_left (Nat.le_of_lt h)]
theorem bg (B:Nat) (l:List Nat) (k:Nat) (h:l.length≤k):val B (l.take k)=val B l:=by rw[List.take_of_length_le h]
theorem dj (B:Nat) (l:List Nat) (k:Nat):val B (l.take (k + 1))=val B (l.take k) + B ^ k * l[k]?.getD 0:=by
 by_cases h:k < l.length
 ·exact dn B l k h
 ·rw[List.take_of_length_le (by omega),List.take_of_length_le (by omega),List.getElem?_eq_none (by omega)]
  simp
theorem lj (B:Nat) (l:List Nat) (k:Nat) (h:k≤l.length):val B l=val B (l.take k) + B ^ k * val B (l.drop k):=by
 conv=>lhs;rw[←List.take_append_drop k l]
 rw[il,List.length_take,Nat.min_eq_left h]
theorem cj.take {B:Nat} {l:List Nat} (h:cj B l) (k:Nat):cj B (l.take k):=fun d hd=>h d (List.mem_of_mem_take hd)
theorem cj.drop {B:Nat} {l:List Nat} (h:cj B l) (k:Nat):cj B (l.drop k):=fun d hd=>h d (List.mem_of_mem_drop hd)
theorem cj.get {B:Nat} {l:List Nat} (h:cj B l) (hB:0 < B) (i:Nat):l[i]?.getD 0 < B:=by
 by_cases hi:i < l.length
 ·rw[List.getElem?_eq_getElem hi];exact h _ (List.getElem_mem hi)
 ·rw[List.getElem?_eq_none (by omega)];exact hB
theorem cj.set {B:Nat} {l:List Nat} (h:cj B l) (i x:Nat) (hx:x < B):cj B (l.set i x):=by
 intro d hd
 rcases List.mem_or_eq_of_mem_set hd with h'|h'
 ·exact h d h'
 ·omega
theorem cj.append {B:Nat} {l m:List Nat} (h:cj B l) (h':cj B m):cj B (l ++ m):=by
 intro d hd
 rcases List.mem_append.1 hd with h1|h1
 ·exact h d h1
 ·exact h' d h1
theorem cj.nil (B:Nat):cj B []:=fun _ h=>by cases h
theorem cj.zeros {B:Nat} (hB:0 < B) (n:Nat):cj B (List.replicate n 0):=by
 intro d hd
 rw[List.mem_replicate] at hd
 omega
theorem gp {B:Nat} (hB:0 < B):∀{l:List Nat},cj B l→val B l < B ^ l.length
 | [],_=>by simp[val]
 | d ::r,h=>by
  have h1:=gp hB (l:=r) (fun x hx=>h x (List.mem_cons_of_mem _ hx))
  have h2:=h d List.mem_cons_self
  simp only[val,List.length_cons,Nat.pow_succ]
  have:B * val B r + B≤B * B ^ r.length:=by
   have:=Nat.mul_le_mul_left B (Nat.succ_le_of_lt h1)
   rw[Nat.mul_succ] at this;exact this
  rw[Nat.mul_comm (B ^ r.length) B]
  omega
theorem nw (B n:Nat):val B (List.replicate n 0)=0:=by
 induction n with
 | zero=>rfl
 | succ n ih=>simp[List.replicate_succ,val,ih]
theorem xp (B:Nat):∀(l:List Nat),(∀i:Nat,l[i]?.getD 0=0)→val B l=0
 | [],_=>rfl
 | d ::r,h=>by
  have h0:=h 0
  have h1:=xp B r (fun i=>by have:=h (i + 1);simpa using this)
  simp at h0
  simp[val,h0,h1]
theorem ui (B:Nat):∀(l:List Nat) (i x:Nat),i < l.length→val B (l.set i x) + B ^ i * l[i]?.getD 0=val B l + B ^ i * x
 | [],i,x,h=>by simp at h
 | d ::r,0,x,_=>by simp[val];omega
 | d ::r,i + 1,x,h=>by
  have:=ui B r i x (by simpa using h)
  simp only[List.set_cons_succ,val,List.getElem?_cons_succ,Nat.pow_succ]
  grind
theorem take_set_ge {l:List Nat} {i k x:Nat} (h:k≤i):(l.set i x).take k=l.take k:=by
 rw[List.take_set,List.set_eq_of_length_le]
 rw[List.length_take];omega
theorem na (l:List Nat) (i x j:Nat) (h:i < l.length):(l.set i x)[j]?.getD 0=if i=j then x else l[j]?.getD 0:=by
 by_cases e:i=j
 ·subst e;simp[List.getElem?_set_self h]
 ·simp[List.getElem?_set_ne e,e]
theorem gh (B:Nat) (l:List Nat) (i x:Nat) (h:i < l.length):val B ((l.set i x).take (i + 1))=val B (l.take i) + B ^ i * x:=by
 rw[dn _ _ _ (by simpa using h),take_set_ge (Nat.le_refl i),na _ _ _ _ h,if_pos rfl]
theorem bi.nil (B:Nat):bi B []:=⟨cj.nil B,by simp⟩
theorem bi.ge {B:Nat} {l:List Nat} (h:bi B l) (hl:0 < l.length):B ^ (l.length - 1)≤val B l:=by
 have hk:l.length - 1 < l.length:=by omega
 have:=dn B l (l.length - 1) hk
 rw[show l.length - 1 + 1=l.length from by omega,bg _ _ _ (Nat.le_refl _)] at this
 rw[this]
 have h1:=h.2 hl
 have:B ^ (l.length - 1) * 1≤B ^ (l.length - 1) * l[l.length - 1]?.getD 0:=Nat.mul_le_mul_left _ (by omega)
 omega
theorem bi.pos {B:Nat} (hB:0 < B) {l:List Nat} (h:bi B l) (hl:0 < l.length):0 < val B l:=by
 have:=h.ge hl
 have:=Nat.pow_pos (n:=l.length - 1) hB
 omega
theorem bi.nil_of {B:Nat} (hB:0 < B) {l:List Nat} (h:bi B l) (h0:val B l=0):l=[]:=by
 cases l with
 | nil=>rfl
 | cons d r=>have:=h.pos hB (by simp);omega
theorem bi.length_pos_iff {B:Nat} (hB:0 < B) {l:List Nat} (h:bi B l):0 < l.length↔0 < val B l:=by
 constructor
 ·exact h.pos hB
 ·intro h0
  cases l with
  | nil=>simp[val] at h0
  | cons d r=>simp
theorem bi.length_le {B K:Nat} (hB:1 < B) {l:List Nat} (h:bi B l) (hK:val B l < B ^ K):l.length≤K:=by
 rcases Nat.lt_or_ge K l.length with hlt|hge
 ·have h1:=h.ge (by omega)
  have:B ^ K≤B ^ (l.length - 1):=Nat.pow_le_pow_right (by omega) (by omega)
  omega
 ·exact hge
theorem bi.lt_of_length {B:Nat} (hB:1 < B) {l m:List Nat} (hl:bi B l) (hm:bi B m) (h:l.length < m.length):val B l < val B m:=by
 have h1:=gp (by omega) hl.1
 have h2:=hm.ge (by omega)
 have:B ^ l.length≤B ^ (m.length - 1):=Nat.pow_le_pow_right (by omega) (by omega)
 omega
theorem bi.length_le_of {B:Nat} (hB:1 < B) {l m:List Nat} (hl:bi B l) (hm:bi B m) (h:val B l≤val B m):l.length≤m.length:=by
 rcases Nat.lt_or_ge m.length l.length with h'|h'
 ·have:=hm.lt_of_length hB hl h';omega
 ·exact h'
theorem py {B:Nat} (hB:0 < B) {l m:List Nat} (hl:cj B l) (hm:cj B m) (hlen:l.length=m.length) (k:Nat) (hk:k < l.length)
  (habove:l.drop (k + 1)=m.drop (k + 1)) (hd:l[k]?.getD 0 < m[k]?.getD 0):val B l < val B m:=by
 rw[lj B l (k + 1) (by omega),lj B m (k + 1) (by omega),habove]
 rw[dn _ _ _ hk,dn _ _ _ (by omega)]
 have h1:=gp hB (hl.take k)
 rw[List.length_take,Nat.min_eq_left (by omega)] at h1
 have h2:B ^ k * (l[k]?.getD 0 + 1)≤B ^ k * m[k]?.getD 0:=Nat.mul_le_mul_left _ (by omega)
 rw[Nat.mul_add,Nat.mul_one] at h2
 omega
theorem jc7 {l m:List Nat} {k:Nat} (hl:k < l.length) (hm:k < m.length) (h:l[k]?.getD 0=m[k]?.getD 0) (habove:l.drop (k + 1)=m.drop (k + 1)):l.drop k=m.drop k:=by
 rw[List.drop_eq_getElem_cons hl,List.drop_eq_getElem_cons hm,habove]
 simp only[List.getElem?_eq_getElem hl,List.getElem?_eq_getElem hm,Option.getD_some] at h
 rw[h]
theorem jb2 (B:Nat) (l:List Nat) (m:Nat) (h:∀i,m≤i→l[i]?.getD 0=0) (hm:m≤l.length):val B (l.take m)=val B l:=by
 rw[lj B l m hm,xp B (l.drop m) (fun i=>by rw[List.getElem?_drop];exact h _ (by omega))]
 simp
theorem tw {B:Nat} {l:List Nat} (hl:cj B l) (m:Nat) (hm:m≤l.length) (h:0 < m→l[m - 1]?.getD 0≠0):bi B (l.take m):=by
 refine⟨hl.take m,?_⟩
 rw[List.length_take,Nat.min_eq_left hm]
 intro h0
 rw[List.getElem?_take_of_lt (by omega)]
 exact h h0
theorem jf7 (B:Nat) (l l' ol:List Nat) (k carry:Nat) (hk:k < ol.length) (h:val B (ol.take k) + carry * B ^ k=val B (l.take k) + val B (l'.take k)):
  val B ((ol.set k ((carry + l[k]?.getD 0 + l'[k]?.getD 0) % B)).take (k + 1)) + ((carry + l[k]?.getD 0 + l'[k]?.getD 0) / B) * B ^ (k + 1)=val B (l.take (k + 1)) + val B (l'.take (k + 1)):=by
 rw[gh _ _ _ _ hk,dj,dj]
 generalize l[k]?.getD 0=a at *
 generalize l'[k]?.getD 0=b at *
 have:=Nat.div_add_mod (carry + a + b) B
 generalize (carry + a + b) / B=q at *
 generalize (carry + a + b) % B=r at *
 rw[Nat.pow_succ]
 grind
theorem ns (B d:Nat):val B [d]=d:=by simp[val]
theorem val_inj {B:Nat} (hB:1 < B):∀{l m:List Nat},cj B l→cj B m→l.length=m.length→val B l=val B m→l=m
 | [],[],_,_,_,_=>rfl
 | [],_ ::_,_,_,h,_=>by simp at h
 | _ ::_,[],_,_,h,_=>by simp at h
 | d ::r,e ::s,hl,hm,hlen,hv=>by
  have hd:=hl d List.mem_cons_self
  have he:=hm e List.mem_cons_self
  simp only[val] at hv
  have h1:d=e:=by
   have:=congrArg (· % B) hv
   simp only[Nat.add_mul_mod_self_left] at this
   rwa [Nat.mod_eq_of_lt hd,Nat.mod_eq_of_lt he] at this
  subst h1
  have h2:val B r=val B s:=Nat.eq_of_mul_eq_mul_left (by omega:0 < B) (by omega)
  rw[val_inj hB (fun x hx=>hl x (List.mem_cons_of_mem _ hx)) (fun x hx=>hm x (List.mem_cons_of_mem _ hx)) (by simpa using hlen) h2]
theorem bi.inj {B:Nat} (hB:1 < B) {l m:List Nat} (hl:bi B l) (hm:bi B m) (h:val B l=val B m):l=m:=
 val_inj hB hl.1 hm.1 (Nat.le_antisymm (hl.length_le_of hB hm (by omega)) (hm.length_le_of hB hl (by omega))) h
end Go.Proofs.YtidmjdmmpajooaaGreat.Dg
