/-
  The square of the distance of a point from an edge: its ways, bounds: plain.
-/
import Derived.Test.YtbnomdlojmgigaaGreatPkW17W
import Derived.Test.YtbnomdlojmgigaaGreatPkW2W
set_option linter.unusedSimpArgs false
set_option linter.unusedVariables false
namespace Go.Proofs.YtbnomdlojmgigaaGreat
theorem fr_wn2 {p q:Pt} (hp:WP 1048576 p) (hq:WP 1048576 q):Wn 17592186044416 (frZ p q):=by
 unfold frZ dtZ mnZ
 exact ((Wn.mul (hq.1.sub hp.1) (hq.1.sub hp.1)).add (Wn.mul (hq.2.sub hp.2) (hq.2.sub hp.2))).mono (by decide)
theorem dt_wn {p q:Pt} (hp:WP 2097152 p) (hq:WP 2097152 q):Wn 17592186044416 (dtZ p q):=by
 unfold dtZ
 exact ((Wn.mul hp.1 hq.1).add (Wn.mul hp.2 hq.2)).mono (by decide)
theorem cr_wn {p q:Pt} (hp:WP 2097152 p) (hq:WP 2097152 q):Wn 17592186044416 (crZ p q):=by
 unfold crZ
 exact ((Wn.mul hp.1 hq.2).sub (Wn.mul hp.2 hq.1)).mono (by decide)
theorem wg {p q:Pt} (hp:WP 1048576 p) (hq:WP 1048576 q):WP 2097152 (mnZ p q):=⟨hp.1.sub hq.1,hp.2.sub hq.2⟩
theorem dq_1 {a b q:Pt} (h:dtZ (mnZ q a) (mnZ b a)≤0):dsQ a b q=(frZ a q:Rat):=if_pos h
theorem dq_2 {a b q:Pt} (h:¬ dtZ (mnZ q a) (mnZ b a)≤0) (k:dtZ (mnZ b a) (mnZ b a)≤dtZ (mnZ q a) (mnZ b a)):dsQ a b q=(frZ b q:Rat):=(if_neg h).trans (if_pos k)
theorem dq_3 {a b q:Pt} (h:¬ dtZ (mnZ q a) (mnZ b a)≤0) (k:¬ dtZ (mnZ b a) (mnZ b a)≤dtZ (mnZ q a) (mnZ b a)):dsQ a b q=((crZ (mnZ b a) (mnZ q a):Int):Rat) * ((crZ (mnZ b a) (mnZ q a):Int):Rat) / ((dtZ (mnZ b a) (mnZ b a):Int):Rat):=(if_neg h).trans (if_neg k)
end Go.Proofs.YtbnomdlojmgigaaGreat
