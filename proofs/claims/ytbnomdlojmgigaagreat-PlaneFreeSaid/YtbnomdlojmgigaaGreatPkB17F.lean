/-
  A box that moves along a path: when it runs into an obstacle: plain.
-/
import Derived.Test.YtbnomdlojmgigaaGreatPkB15F
set_option linter.unusedSimpArgs false
set_option linter.unusedVariables false
namespace Go.Proofs.YtbnomdlojmgigaaGreat
def tmL (a d lo hi : Int) : Rat := if d = 0 then -1 else if d < 0 then ((hi - a : Int) : Rat) / (d : Rat) else ((lo - a : Int) : Rat) / (d : Rat)
def tmH (a d lo hi : Int) : Rat := if d = 0 then 2 else if d < 0 then ((lo - a : Int) : Rat) / (d : Rat) else ((hi - a : Int) : Rat) / (d : Rat)
def tmB (a d lo hi : Int) : Bool := !decide (d = 0) || (decide (lo < a) && decide (a < hi))
def mxR (x y : Rat) : Rat := if x < y then y else x
def mnR (x y : Rat) : Rat := if y < x then y else x
abbrev Bxx := Pt × Pt
def hitL (a b : Pt) (w h : Int) (o : Bxx) : Rat := mxR (tmL a.1 (b.1 - a.1) (o.1.1 - w) (o.2.1 + w)) (tmL a.2 (b.2 - a.2) (o.1.2 - h) (o.2.2 + h))
def hitH (a b : Pt) (w h : Int) (o : Bxx) : Rat := mnR (tmH a.1 (b.1 - a.1) (o.1.1 - w) (o.2.1 + w)) (tmH a.2 (b.2 - a.2) (o.1.2 - h) (o.2.2 + h))
def hitB (a b : Pt) (w h : Int) (o : Bxx) : Bool :=
  tmB a.1 (b.1 - a.1) (o.1.1 - w) (o.2.1 + w) && (tmB a.2 (b.2 - a.2) (o.1.2 - h) (o.2.2 + h) && (decide (hitL a b w h o < hitH a b w h o) && (decide (hitL a b w h o < 1) && decide (0 < hitH a b w h o))))
theorem tm_in {a d lo hi : Int} {s : Rat} (h0 : 0 ≤ s) (h1 : s ≤ 1) (hl : (lo : Rat) < (a : Rat) + s * (d : Rat)) (hh : (a : Rat) + s * (d : Rat) < (hi : Rat)) : tmB a d lo hi = true ∧ tmL a d lo hi < s ∧ s < tmH a d lo hi := by
  unfold tmB tmL tmH
  by_cases hd : d = 0
  · subst hd
    have e : (a : Rat) + s * ((0 : Int) : Rat) = a := by rw [Rat.intCast_zero, Rat.mul_zero, Rat.add_zero]
    rw [e] at hl hh
    refine ⟨?_, ?_, ?_⟩
    · have h2 := Rat.intCast_lt_intCast.1 hl
      have h3 := Rat.intCast_lt_intCast.1 hh
      simp [h2, h3]
    · rw [if_pos rfl]; grind
    · rw [if_pos rfl]; grind
  · rw [if_neg hd, if_neg hd]
    refine ⟨by simp [hd], ?_⟩
    by_cases hn : d < 0
    · rw [if_pos hn, if_pos hn]
      have hq : (d : Rat) < 0 := by have := Rat.intCast_lt_intCast.2 hn; rwa [Rat.intCast_zero] at this
      have hne : (d : Rat) ≠ 0 := by grind
      have e1 : ((hi - a : Int) : Rat) = (hi : Rat) - (a : Rat) := Rat.intCast_sub _ _
      have e2 : ((lo - a : Int) : Rat) = (lo : Rat) - (a : Rat) := Rat.intCast_sub _ _
      rw [e1, e2]
      constructor
      · have key : ((hi : Rat) - a) / d = -(((hi : Rat) - a) / (-d)) := by grind
        rw [key]
        have := (Rat.lt_div_iff (a := -s) (b := (hi : Rat) - a) (c := -(d : Rat)) (by grind)).2 (by grind)
        grind
      · have key : ((lo : Rat) - a) / d = -(((lo : Rat) - a) / (-d)) := by grind
        rw [key]
        have := (Rat.div_lt_iff (a := (lo : Rat) - a) (c := -s) (b := -(d : Rat)) (by grind)).2 (by grind)
        grind
    · rw [if_neg hn, if_neg hn]
      have hp : (0 : Rat) < (d : Rat) := by have := Rat.intCast_lt_intCast.2 (show 0 < d by omega); rwa [Rat.intCast_zero] at this
      have e1 : ((hi - a : Int) : Rat) = (hi : Rat) - (a : Rat) := Rat.intCast_sub _ _
      have e2 : ((lo - a : Int) : Rat) = (lo : Rat) - (a : Rat) := Rat.intCast_sub _ _
      rw [e1, e2]
      exact ⟨(Rat.div_lt_iff hp).2 (by grind), (Rat.lt_div_iff hp).2 (by grind)⟩
theorem hit_free {a b : Pt} {w h : Int} {o : Bxx} (hb : hitB a b w h o = false) {s : Rat} (h0 : 0 ≤ s) (h1 : s ≤ 1)
    (x1 : ((o.1.1 - w : Int) : Rat) < (a.1 : Rat) + s * ((b.1 - a.1 : Int) : Rat)) (x2 : (a.1 : Rat) + s * ((b.1 - a.1 : Int) : Rat) < ((o.2.1 + w : Int) : Rat))
    (y1 : ((o.1.2 - h : Int) : Rat) < (a.2 : Rat) + s * ((b.2 - a.2 : Int) : Rat)) : ¬ (a.2 : Rat) + s * ((b.2 - a.2 : Int) : Rat) < ((o.2.2 + h : Int) : Rat) := fun y2 => by
  obtain ⟨t1, t2, t3⟩ := tm_in h0 h1 x1 x2
  obtain ⟨u1, u2, u3⟩ := tm_in h0 h1 y1 y2
  have : hitB a b w h o = true := by
    unfold hitB
    rw [t1, u1]
    have l1 : hitL a b w h o < s := by unfold hitL mxR; split <;> assumption
    have l2 : s < hitH a b w h o := by unfold hitH mnR; split <;> assumption
    rw [decide_eq_true (show hitL a b w h o < hitH a b w h o by grind), decide_eq_true (show hitL a b w h o < 1 by grind), decide_eq_true (show 0 < hitH a b w h o by grind)]
    rfl
  rw [hb] at this; cases this
theorem tm_turn (a d lo hi : Int) : tmB (a + d) (-d) lo hi = tmB a d lo hi ∧ (d ≠ 0 → tmL (a + d) (-d) lo hi = 1 - tmH a d lo hi ∧ tmH (a + d) (-d) lo hi = 1 - tmL a d lo hi) ∧ (d = 0 → tmL (a + d) (-d) lo hi = tmL a d lo hi ∧ tmH (a + d) (-d) lo hi = tmH a d lo hi) := by
  refine ⟨?_, fun hd => ?_, fun hd => ?_⟩
  · unfold tmB
    by_cases hd : d = 0
    · subst hd; simp
    · simp [hd]
  · have hne : (d : Rat) ≠ 0 := fun e => hd (Rat.intCast_eq_zero_iff.1 e)
    unfold tmL tmH
    rw [if_neg hd, if_neg hd, if_neg (show ¬ -d = 0 by omega), if_neg (show ¬ -d = 0 by omega)]
    by_cases hn : d < 0
    · rw [if_pos hn, if_pos hn, if_neg (show ¬ -d < 0 by omega), if_neg (show ¬ -d < 0 by omega)]
      simp only [Rat.intCast_sub, Rat.intCast_add, Rat.intCast_neg]
      constructor <;> grind
    · rw [if_neg hn, if_neg hn, if_pos (show -d < 0 by omega), if_pos (show -d < 0 by omega)]
      simp only [Rat.intCast_sub, Rat.intCast_add, Rat.intCast_neg]
      constructor <;> grind
  · subst hd
    unfold tmL tmH
    simp
theorem hit_iff (a b : Pt) (w h : Int) (o : Bxx) : hitB a b w h o = true ↔ tmB a.1 (b.1 - a.1) (o.1.1 - w) (o.2.1 + w) = true ∧ tmB a.2 (b.2 - a.2) (o.1.2 - h) (o.2.2 + h) = true ∧ (hitL a b w h o < hitH a b w h o ∧ hitL a b w h o < 1 ∧ 0 < hitH a b w h o) := by
  unfold hitB; simp only [Bool.and_eq_true, decide_eq_true_eq]
theorem span_turn {l1 h1 l2 h2 L1 H1 L2 H2 : Rat} (c1 : (L1 = 1 - h1 ∧ H1 = 1 - l1) ∨ (L1 = -1 ∧ H1 = 2 ∧ l1 = -1 ∧ h1 = 2)) (c2 : (L2 = 1 - h2 ∧ H2 = 1 - l2) ∨ (L2 = -1 ∧ H2 = 2 ∧ l2 = -1 ∧ h2 = 2))
    (h : mxR l1 l2 < mnR h1 h2 ∧ mxR l1 l2 < 1 ∧ 0 < mnR h1 h2) : mxR L1 L2 < mnR H1 H2 ∧ mxR L1 L2 < 1 ∧ 0 < mnR H1 H2 := by
  have a1 : l1 ≤ mxR l1 l2 ∧ l2 ≤ mxR l1 l2 := by unfold mxR; split <;> constructor <;> grind
  have a2 : mnR h1 h2 ≤ h1 ∧ mnR h1 h2 ≤ h2 := by unfold mnR; split <;> constructor <;> grind
  have b1 : mxR L1 L2 = L1 ∨ mxR L1 L2 = L2 := by unfold mxR; split <;> simp
  have b2 : mnR H1 H2 = H1 ∨ mnR H1 H2 = H2 := by unfold mnR; split <;> simp
  rcases c1 with ⟨rfl, rfl⟩ | ⟨rfl, rfl, rfl, rfl⟩ <;> rcases c2 with ⟨rfl, rfl⟩ | ⟨rfl, rfl, rfl, rfl⟩ <;> rcases b1 with b1 | b1 <;> rcases b2 with b2 | b2 <;> rw [b1, b2] <;> refine ⟨?_, ?_, ?_⟩ <;> grind
theorem tm_turn' (x y lo hi : Int) : tmB y (x - y) lo hi = tmB x (y - x) lo hi ∧ ((tmL y (x - y) lo hi = 1 - tmH x (y - x) lo hi ∧ tmH y (x - y) lo hi = 1 - tmL x (y - x) lo hi) ∨ (tmL y (x - y) lo hi = -1 ∧ tmH y (x - y) lo hi = 2 ∧ tmL x (y - x) lo hi = -1 ∧ tmH x (y - x) lo hi = 2)) := by
  obtain ⟨h1, h2, h3⟩ := tm_turn x (y - x) lo hi
  rw [show x + (y - x) = y by omega, show -(y - x) = x - y by omega] at h1 h2 h3
  refine ⟨h1, ?_⟩
  by_cases hd : y - x = 0
  · right
    refine ⟨?_, ?_, ?_, ?_⟩
    · unfold tmL; rw [if_pos (by omega)]
    · unfold tmH; rw [if_pos (by omega)]
    · unfold tmL; rw [if_pos hd]
    · unfold tmH; rw [if_pos hd]
  · exact .inl (h2 hd)
theorem hit_turn_imp (a b : Pt) (w h : Int) (o : Bxx) (hh : hitB a b w h o = true) : hitB b a w h o = true := by
  rw [hit_iff] at hh ⊢
  obtain ⟨h1, h2, h3⟩ := hh
  obtain ⟨x1, x2⟩ := tm_turn' a.1 b.1 (o.1.1 - w) (o.2.1 + w)
  obtain ⟨y1, y2⟩ := tm_turn' a.2 b.2 (o.1.2 - h) (o.2.2 + h)
  exact ⟨x1.trans h1, y1.trans h2, span_turn x2 y2 h3⟩
theorem hit_turn (a b : Pt) (w h : Int) (o : Bxx) : hitB b a w h o = hitB a b w h o := by
  rw [Bool.eq_iff_iff]
  exact ⟨hit_turn_imp b a w h o, hit_turn_imp a b w h o⟩
end Go.Proofs.YtbnomdlojmgigaaGreat
namespace Go.Proofs.YtbnomdlojmgigaaGreat
def bxZ (l : List Bxx) (i : Nat) : Bxx := l.getD i ((0, 0), (0, 0))
def hitN (path : List Pt) (w h : Int) (obs : List Bxx) (i k : Nat) : Bool := hitB (ptZ path i) (ptZ path (i + 1)) w h (bxZ obs k)
def SwR (path : List Pt) (w h : Int) (obs : List Bxx) (i k : Int) : Prop :=
  (i = -1 ∧ k = -1 ∧ ∀ a b, a + 1 < path.length → b < obs.length → hitN path w h obs a b = false) ∨
  ∃ a b : Nat, i = a ∧ k = b ∧ a + 1 < path.length ∧ b < obs.length ∧ hitN path w h obs a b = true ∧ (∀ c d, c < a → d < obs.length → hitN path w h obs c d = false) ∧ ∀ d, d < b → hitN path w h obs a d = false
theorem SwR.uniq {path : List Pt} {w h : Int} {obs : List Bxx} {i k i' k' : Int} (h1 : SwR path w h obs i k) (h2 : SwR path w h obs i' k') : i = i' ∧ k = k' := by
  rcases h1 with ⟨rfl, rfl, h1⟩ | ⟨a, b, rfl, rfl, ha, hb, hh, hf, ho⟩ <;> rcases h2 with ⟨rfl, rfl, h2⟩ | ⟨a', b', rfl, rfl, ha', hb', hh', hf', ho'⟩
  · exact ⟨rfl, rfl⟩
  · rw [h1 a' b' ha' hb'] at hh'; cases hh'
  · rw [h2 a b ha hb] at hh; cases hh
  · have e : a = a' := by
      rcases Nat.lt_trichotomy a a' with h | h | h
      · rw [hf' a b h hb] at hh; cases hh
      · exact h
      · rw [hf a' b' h hb'] at hh'; cases hh'
    subst e
    have e : b = b' := by
      rcases Nat.lt_trichotomy b b' with h | h | h
      · rw [ho' b h] at hh; cases hh
      · exact h
      · rw [ho b' h] at hh'; cases hh'
    subst e
    exact ⟨rfl, rfl⟩
theorem SwR.neg {path : List Pt} {w h : Int} {obs : List Bxx} {i k : Int} (h1 : SwR path w h obs i k) : (i < 0 ↔ k < 0) ∧ (i < 0 ↔ ∀ a b, a + 1 < path.length → b < obs.length → hitN path w h obs a b = false) ∧ (0 < path.length → i < path.length - 1) ∧ k < obs.length := by
  rcases h1 with ⟨rfl, rfl, h1⟩ | ⟨a, b, rfl, rfl, ha, hb, hh, hf, ho⟩
  · exact ⟨by omega, ⟨fun _ => h1, fun _ => by omega⟩, fun _ => by omega, by omega⟩
  · refine ⟨by omega, ⟨fun h => by omega, fun h => ?_⟩, fun _ => by omega, by omega⟩
    rw [h a b ha hb] at hh; cases hh
theorem ptZ_rev {l : List Pt} {i : Nat} (h : i < l.length) : ptZ l.reverse i = ptZ l (l.length - 1 - i) := by
  unfold ptZ
  rw [List.getD_eq_getElem?_getD, List.getD_eq_getElem?_getD, List.getElem?_reverse h]
theorem sw_turn {path : List Pt} {w h : Int} {obs : List Bxx} {i k j m : Int} (h1 : SwR path w h obs i k) (h2 : SwR path.reverse w h obs j m) : i < 0 ↔ j < 0 := by
  rw [h1.neg.2.1, h2.neg.2.1]
  have key : ∀ l : List Pt, (∀ a b, a + 1 < l.length → b < obs.length → hitN l w h obs a b = false) → ∀ a b, a + 1 < l.reverse.length → b < obs.length → hitN l.reverse w h obs a b = false := by
    intro l hl a b ha hb
    rw [List.length_reverse] at ha
    unfold hitN
    rw [ptZ_rev (by omega), ptZ_rev ha, hit_turn]
    have := hl (l.length - 1 - (a + 1)) b (by omega) hb
    unfold hitN at this
    rwa [show l.length - 1 - (a + 1) + 1 = l.length - 1 - a by omega] at this
  constructor
  · exact key path
  · intro hh
    have := key path.reverse hh
    rwa [List.reverse_reverse] at this
theorem sw_alone {path : List Pt} {w h : Int} {obs : List Bxx} {a b : Nat} (hh : hitN path w h obs a b = true) : SwR [ptZ path a, ptZ path (a + 1)] w h [bxZ obs b] 0 0 :=
  .inr ⟨0, 0, rfl, rfl, by simp, by simp, hh, fun c d hc => absurd hc (Nat.not_lt_zero c), fun d hd => absurd hd (Nat.not_lt_zero d)⟩
end Go.Proofs.YtbnomdlojmgigaaGreat
