/-
  Plain facts on lists of digits to a base B, the least digit first: their value, what is canonical, how they compare. No program is in sight here.
-/

set_option linter.unusedSimpArgs false
set_option linter.unusedVariables false
namespace Go.Proofs.YtkfekkhhfpkfaaaGreat.Dg
def val (B : Nat) : List Nat → Nat
  | [] => 0
  | d :: r => d + B * val B r
def Digs (B : Nat) (l : List Nat) : Prop := ∀ d ∈ l, d < B
def Canon (B : Nat) (l : List Nat) : Prop := Digs B l ∧ (0 < l.length → l[l.length - 1]?.getD 0 ≠ 0)
theorem val_append (B : Nat) : ∀ l m : List Nat, val B (l ++ m) = val B l + B ^ l.length * val B m
  | [], m => by simp [val]
  | d :: r, m => by
    simp only [List.cons_append, val, val_append B r m, List.length_cons, Nat.pow_succ]
    grind
theorem val_take_succ (B : Nat) (l : List Nat) (k : Nat) (h : k < l.length) : val B (l.take (k + 1)) = val B (l.take k) + B ^ k * l[k]?.getD 0 := by
  rw [List.take_succ_eq_append_getElem h, val_append]
  simp [val, List.getElem?_eq_getElem h, Nat.min_eq_left (Nat.le_of_lt h)]
theorem val_take_all (B : Nat) (l : List Nat) (k : Nat) (h : l.length ≤ k) : val B (l.take k) = val B l := by rw [List.take_of_length_le h]
theorem val_take_succ' (B : Nat) (l : List Nat) (k : Nat) : val B (l.take (k + 1)) = val B (l.take k) + B ^ k * l[k]?.getD 0 := by
  by_cases h : k < l.length
  · exact val_take_succ B l k h
  · rw [List.take_of_length_le (by omega), List.take_of_length_le (by omega), List.getElem?_eq_none (by omega)]
    simp
theorem val_split (B : Nat) (l : List Nat) (k : Nat) (h : k ≤ l.length) : val B l = val B (l.take k) + B ^ k * val B (l.drop k) := by
  conv => lhs; rw [← List.take_append_drop k l]
  rw [val_append, List.length_take, Nat.min_eq_left h]
theorem Digs.take {B : Nat} {l : List Nat} (h : Digs B l) (k : Nat) : Digs B (l.take k) := fun d hd => h d (List.mem_of_mem_take hd)
theorem Digs.drop {B : Nat} {l : List Nat} (h : Digs B l) (k : Nat) : Digs B (l.drop k) := fun d hd => h d (List.mem_of_mem_drop hd)
theorem Digs.get {B : Nat} {l : List Nat} (h : Digs B l) (hB : 0 < B) (i : Nat) : l[i]?.getD 0 < B := by
  by_cases hi : i < l.length
  · rw [List.getElem?_eq_getElem hi]; exact h _ (List.getElem_mem hi)
  · rw [List.getElem?_eq_none (by omega)]; exact hB
theorem Digs.set {B : Nat} {l : List Nat} (h : Digs B l) (i x : Nat) (hx : x < B) : Digs B (l.set i x) := by
  intro d hd
  rcases List.mem_or_eq_of_mem_set hd with h' | h'
  · exact h d h'
  · omega
theorem Digs.append {B : Nat} {l m : List Nat} (h : Digs B l) (h' : Digs B m) : Digs B (l ++ m) := by
  intro d hd
  rcases List.mem_append.1 hd with h1 | h1
  · exact h d h1
  · exact h' d h1
theorem Digs.nil (B : Nat) : Digs B [] := fun _ h => by cases h
theorem Digs.zeros {B : Nat} (hB : 0 < B) (n : Nat) : Digs B (List.replicate n 0) := by
  intro d hd
  rw [List.mem_replicate] at hd
  omega
theorem val_lt {B : Nat} (hB : 0 < B) : ∀ {l : List Nat}, Digs B l → val B l < B ^ l.length
  | [], _ => by simp [val]
  | d :: r, h => by
    have h1 := val_lt hB (l := r) (fun x hx => h x (List.mem_cons_of_mem _ hx))
    have h2 := h d List.mem_cons_self
    simp only [val, List.length_cons, Nat.pow_succ]
    have : B * val B r + B ≤ B * B ^ r.length := by
      have := Nat.mul_le_mul_left B (Nat.succ_le_of_lt h1)
      rw [Nat.mul_succ] at this; exact this
    rw [Nat.mul_comm (B ^ r.length) B]
    omega
theorem val_zeros (B n : Nat) : val B (List.replicate n 0) = 0 := by
  induction n with
  | zero => rfl
  | succ n ih => simp [List.replicate_succ, val, ih]
theorem val_all_zero (B : Nat) : ∀ (l : List Nat), (∀ i : Nat, l[i]?.getD 0 = 0) → val B l = 0
  | [], _ => rfl
  | d :: r, h => by
    have h0 := h 0
    have h1 := val_all_zero B r (fun i => by have := h (i + 1); simpa using this)
    simp at h0
    simp [val, h0, h1]
theorem val_set (B : Nat) : ∀ (l : List Nat) (i x : Nat), i < l.length → val B (l.set i x) + B ^ i * l[i]?.getD 0 = val B l + B ^ i * x
  | [], i, x, h => by simp at h
  | d :: r, 0, x, _ => by simp [val]; omega
  | d :: r, i + 1, x, h => by
    have := val_set B r i x (by simpa using h)
    simp only [List.set_cons_succ, val, List.getElem?_cons_succ, Nat.pow_succ]
    grind
theorem take_set_ge {l : List Nat} {i k x : Nat} (h : k ≤ i) : (l.set i x).take k = l.take k := by
  rw [List.take_set, List.set_eq_of_length_le]
  rw [List.length_take]; omega
theorem get_set (l : List Nat) (i x j : Nat) (h : i < l.length) : (l.set i x)[j]?.getD 0 = if i = j then x else l[j]?.getD 0 := by
  by_cases e : i = j
  · subst e; simp [List.getElem?_set_self h]
  · simp [List.getElem?_set_ne e, e]
theorem val_take_set_succ (B : Nat) (l : List Nat) (i x : Nat) (h : i < l.length) : val B ((l.set i x).take (i + 1)) = val B (l.take i) + B ^ i * x := by
  rw [val_take_succ _ _ _ (by simpa using h), take_set_ge (Nat.le_refl i), get_set _ _ _ _ h, if_pos rfl]
theorem Canon.nil (B : Nat) : Canon B [] := ⟨Digs.nil B, by simp⟩
theorem Canon.ge {B : Nat} {l : List Nat} (h : Canon B l) (hl : 0 < l.length) : B ^ (l.length - 1) ≤ val B l := by
  have hk : l.length - 1 < l.length := by omega
  have := val_take_succ B l (l.length - 1) hk
  rw [show l.length - 1 + 1 = l.length from by omega, val_take_all _ _ _ (Nat.le_refl _)] at this
  rw [this]
  have h1 := h.2 hl
  have : B ^ (l.length - 1) * 1 ≤ B ^ (l.length - 1) * l[l.length - 1]?.getD 0 := Nat.mul_le_mul_left _ (by omega)
  omega
theorem Canon.pos {B : Nat} (hB : 0 < B) {l : List Nat} (h : Canon B l) (hl : 0 < l.length) : 0 < val B l := by
  have := h.ge hl
  have := Nat.pow_pos (n := l.length - 1) hB
  omega
theorem Canon.nil_of {B : Nat} (hB : 0 < B) {l : List Nat} (h : Canon B l) (h0 : val B l = 0) : l = [] := by
  cases l with
  | nil => rfl
  | cons d r => have := h.pos hB (by simp); omega
theorem Canon.length_pos_iff {B : Nat} (hB : 0 < B) {l : List Nat} (h : Canon B l) : 0 < l.length ↔ 0 < val B l := by
  constructor
  · exact h.pos hB
  · intro h0
    cases l with
    | nil => simp [val] at h0
    | cons d r => simp
theorem Canon.length_le {B K : Nat} (hB : 1 < B) {l : List Nat} (h : Canon B l) (hK : val B l < B ^ K) : l.length ≤ K := by
  rcases Nat.lt_or_ge K l.length with hlt | hge
  · have h1 := h.ge (by omega)
    have : B ^ K ≤ B ^ (l.length - 1) := Nat.pow_le_pow_right (by omega) (by omega)
    omega
  · exact hge
theorem Canon.lt_of_length {B : Nat} (hB : 1 < B) {l m : List Nat} (hl : Canon B l) (hm : Canon B m) (h : l.length < m.length) : val B l < val B m := by
  have h1 := val_lt (by omega) hl.1
  have h2 := hm.ge (by omega)
  have : B ^ l.length ≤ B ^ (m.length - 1) := Nat.pow_le_pow_right (by omega) (by omega)
  omega
theorem Canon.length_le_of {B : Nat} (hB : 1 < B) {l m : List Nat} (hl : Canon B l) (hm : Canon B m) (h : val B l ≤ val B m) : l.length ≤ m.length := by
  rcases Nat.lt_or_ge m.length l.length with h' | h'
  · have := hm.lt_of_length hB hl h'; omega
  · exact h'
theorem lt_of_digit {B : Nat} (hB : 0 < B) {l m : List Nat} (hl : Digs B l) (hm : Digs B m) (hlen : l.length = m.length) (k : Nat) (hk : k < l.length)
    (habove : l.drop (k + 1) = m.drop (k + 1)) (hd : l[k]?.getD 0 < m[k]?.getD 0) : val B l < val B m := by
  rw [val_split B l (k + 1) (by omega), val_split B m (k + 1) (by omega), habove]
  rw [val_take_succ _ _ _ hk, val_take_succ _ _ _ (by omega)]
  have h1 := val_lt hB (hl.take k)
  rw [List.length_take, Nat.min_eq_left (by omega)] at h1
  have h2 : B ^ k * (l[k]?.getD 0 + 1) ≤ B ^ k * m[k]?.getD 0 := Nat.mul_le_mul_left _ (by omega)
  rw [Nat.mul_add, Nat.mul_one] at h2
  omega
theorem drop_eq_of {l m : List Nat} {k : Nat} (hl : k < l.length) (hm : k < m.length) (h : l[k]?.getD 0 = m[k]?.getD 0) (habove : l.drop (k + 1) = m.drop (k + 1)) : l.drop k = m.drop k := by
  rw [List.drop_eq_getElem_cons hl, List.drop_eq_getElem_cons hm, habove]
  simp only [List.getElem?_eq_getElem hl, List.getElem?_eq_getElem hm, Option.getD_some] at h
  rw [h]
theorem val_cut (B : Nat) (l : List Nat) (m : Nat) (h : ∀ i, m ≤ i → l[i]?.getD 0 = 0) (hm : m ≤ l.length) : val B (l.take m) = val B l := by
  rw [val_split B l m hm, val_all_zero B (l.drop m) (fun i => by rw [List.getElem?_drop]; exact h _ (by omega))]
  simp
theorem canon_cut {B : Nat} {l : List Nat} (hl : Digs B l) (m : Nat) (hm : m ≤ l.length) (h : 0 < m → l[m - 1]?.getD 0 ≠ 0) : Canon B (l.take m) := by
  refine ⟨hl.take m, ?_⟩
  rw [List.length_take, Nat.min_eq_left hm]
  intro h0
  rw [List.getElem?_take_of_lt (by omega)]
  exact h h0
theorem sum_step (B : Nat) (l l' ol : List Nat) (k carry : Nat) (hk : k < ol.length) (h : val B (ol.take k) + carry * B ^ k = val B (l.take k) + val B (l'.take k)) :
    val B ((ol.set k ((carry + l[k]?.getD 0 + l'[k]?.getD 0) % B)).take (k + 1)) + ((carry + l[k]?.getD 0 + l'[k]?.getD 0) / B) * B ^ (k + 1) = val B (l.take (k + 1)) + val B (l'.take (k + 1)) := by
  rw [val_take_set_succ _ _ _ _ hk, val_take_succ', val_take_succ']
  generalize l[k]?.getD 0 = a at *
  generalize l'[k]?.getD 0 = b at *
  have := Nat.div_add_mod (carry + a + b) B
  generalize (carry + a + b) / B = q at *
  generalize (carry + a + b) % B = r at *
  rw [Nat.pow_succ]
  grind
theorem sum_end {B : Nat} (hB : 1 < B) {l l' ol : List Nat} {carry : Nat} (hl : Digs B l) (hl' : Digs B l') (h1 : l.length + 1 ≤ ol.length) (h2 : l'.length + 1 ≤ ol.length)
    (h : val B (ol.take ol.length) + carry * B ^ ol.length = val B (l.take ol.length) + val B (l'.take ol.length)) : val B ol = val B l + val B l' := by
  rw [val_take_all _ _ _ (Nat.le_refl _), val_take_all _ _ _ (by omega), val_take_all _ _ _ (by omega)] at h
  have a1 := val_lt (by omega) hl
  have a2 := val_lt (by omega) hl'
  have b1 : B ^ l.length ≤ B ^ (ol.length - 1) := Nat.pow_le_pow_right (by omega) (by omega)
  have b2 : B ^ l'.length ≤ B ^ (ol.length - 1) := Nat.pow_le_pow_right (by omega) (by omega)
  have b3 : B ^ ol.length = B ^ (ol.length - 1) * B := by rw [← Nat.pow_succ]; congr 1; omega
  have b4 : B ^ (ol.length - 1) * 2 ≤ B ^ (ol.length - 1) * B := Nat.mul_le_mul_left _ hB
  have : carry = 0 := by
    rcases Nat.eq_zero_or_pos carry with h0 | h0
    · exact h0
    · have : 1 * B ^ ol.length ≤ carry * B ^ ol.length := Nat.mul_le_mul_right _ h0
      omega
  subst this
  omega
theorem val_one (B d : Nat) : val B [d] = d := by simp [val]
theorem val_two (B d e : Nat) : val B [d, e] = d + B * e := by simp [val]
theorem val_inj {B : Nat} (hB : 1 < B) : ∀ {l m : List Nat}, Digs B l → Digs B m → l.length = m.length → val B l = val B m → l = m
  | [], [], _, _, _, _ => rfl
  | [], _ :: _, _, _, h, _ => by simp at h
  | _ :: _, [], _, _, h, _ => by simp at h
  | d :: r, e :: s, hl, hm, hlen, hv => by
    have hd := hl d List.mem_cons_self
    have he := hm e List.mem_cons_self
    simp only [val] at hv
    have h1 : d = e := by
      have := congrArg (· % B) hv
      simp only [Nat.add_mul_mod_self_left] at this
      rwa [Nat.mod_eq_of_lt hd, Nat.mod_eq_of_lt he] at this
    subst h1
    have h2 : val B r = val B s := Nat.eq_of_mul_eq_mul_left (by omega : 0 < B) (by omega)
    rw [val_inj hB (fun x hx => hl x (List.mem_cons_of_mem _ hx)) (fun x hx => hm x (List.mem_cons_of_mem _ hx)) (by simpa using hlen) h2]
theorem Canon.inj {B : Nat} (hB : 1 < B) {l m : List Nat} (hl : Canon B l) (hm : Canon B m) (h : val B l = val B m) : l = m :=
  val_inj hB hl.1 hm.1 (Nat.le_antisymm (hl.length_le_of hB hm (by omega)) (hm.length_le_of hB hl (by omega))) h
end Go.Proofs.YtkfekkhhfpkfaaaGreat.Dg
namespace Go.Proofs.YtkfekkhhfpkfaaaGreat.Dg
theorem dif_step (B : Nat) (l l' ol : List Nat) (k borrow : Nat) (hk : k < ol.length) (h : val B (ol.take k) + val B (l'.take k) = val B (l.take k) + borrow * B ^ k)
    (x y nb : Nat) (hx : x + (borrow + l'[k]?.getD 0) = l[k]?.getD 0 + nb * B) (hy : y = x) :
    val B ((ol.set k y).take (k + 1)) + val B (l'.take (k + 1)) = val B (l.take (k + 1)) + nb * B ^ (k + 1) := by
  subst hy
  rw [val_take_set_succ _ _ _ _ hk, val_take_succ', val_take_succ']
  generalize l[k]?.getD 0 = a at *
  generalize l'[k]?.getD 0 = b at *
  rw [Nat.pow_succ]
  have : B ^ k * (y + (borrow + b)) = B ^ k * (a + nb * B) := by rw [hx]
  grind
theorem dif_end {B : Nat} {l l' ol : List Nat} {borrow : Nat} (hB : 1 < B) (hol : Digs B ol) (h0 : ol.length = l.length) (h1 : l'.length ≤ l.length) (hle : val B l' ≤ val B l)
    (h : val B (ol.take ol.length) + val B (l'.take ol.length) = val B (l.take ol.length) + borrow * B ^ ol.length) : val B ol = val B l - val B l' := by
  rw [val_take_all _ _ _ (Nat.le_refl _), val_take_all _ _ _ (by omega), val_take_all _ _ _ (by omega)] at h
  have a1 := val_lt (by omega) hol
  have : borrow = 0 := by
    rcases Nat.eq_zero_or_pos borrow with h0 | h0
    · exact h0
    · have : 1 * B ^ ol.length ≤ borrow * B ^ ol.length := Nat.mul_le_mul_right _ h0
      omega
  subst this
  omega
theorem val_drop_succ (B : Nat) (l : List Nat) (k : Nat) (h : k < l.length) : val B (l.drop k) = l[k]?.getD 0 + B * val B (l.drop (k + 1)) := by
  rw [List.drop_eq_getElem_cons h, val, List.getElem?_eq_getElem h]; rfl
theorem drop_set_lt {l : List Nat} {i k x : Nat} (h : i < k) : (l.set i x).drop k = l.drop k := by
  apply List.ext_getElem? ; intro j
  rw [List.getElem?_drop, List.getElem?_drop, List.getElem?_set_ne (by omega)]
theorem val_drop_set (B : Nat) (l : List Nat) (k x : Nat) (h : k < l.length) : val B ((l.set k x).drop k) = x + B * val B (l.drop (k + 1)) := by
  rw [val_drop_succ _ _ _ (by simpa using h), get_set _ _ _ _ h, if_pos rfl, drop_set_lt (by omega)]
theorem div_step (B d : Nat) (l ol : List Nat) (k rest : Nat) (hk : k < l.length) (hko : k < ol.length) (h : val B (l.drop (k + 1)) = val B (ol.drop (k + 1)) * d + rest) :
    val B (l.drop k) = val B ((ol.set k ((rest * B + l[k]?.getD 0) / d)).drop k) * d + (rest * B + l[k]?.getD 0) % d := by
  rw [val_drop_succ _ _ _ hk, val_drop_set _ _ _ _ hko, h]
  generalize l[k]?.getD 0 = a
  have := Nat.div_add_mod (rest * B + a) d
  generalize (rest * B + a) / d = q at *
  generalize (rest * B + a) % d = r at *
  grind
theorem div_digit {B d rest a : Nat} (hr : rest < d) (ha : a < B) : (rest * B + a) / d < B := by
  rw [Nat.div_lt_iff_lt_mul (by omega)]
  have : (rest + 1) * B ≤ d * B := Nat.mul_le_mul_right _ hr
  rw [Nat.add_mul, Nat.one_mul] at this
  rw [Nat.mul_comm B d]
  omega
theorem div_rest_lt {B d rest a : Nat} (hr : rest < d) (ha : a < B) (hd : d ≤ B) : rest * B + a < B * B := by
  have : (rest + 1) * B ≤ d * B := Nat.mul_le_mul_right _ hr
  have : d * B ≤ B * B := Nat.mul_le_mul_right _ hd
  rw [Nat.add_mul, Nat.one_mul] at *
  omega
theorem half_step (H : Nat) (l ol : List Nat) (k : Nat) (hk : k < ol.length) (h : 2 * val (2 * H) (ol.take k) + l[0]?.getD 0 % 2 = val (2 * H) (l.take k) + l[k]?.getD 0 % 2 * (2 * H) ^ k) :
    2 * val (2 * H) ((ol.set k (l[k]?.getD 0 / 2 + l[k + 1]?.getD 0 % 2 * H)).take (k + 1)) + l[0]?.getD 0 % 2 = val (2 * H) (l.take (k + 1)) + l[k + 1]?.getD 0 % 2 * (2 * H) ^ (k + 1) := by
  rw [val_take_set_succ _ _ _ _ hk, val_take_succ']
  have h2 := Nat.div_add_mod (l[k]?.getD 0) 2
  rw [Nat.pow_succ]
  generalize l[k]?.getD 0 = a at *
  generalize l[k + 1]?.getD 0 % 2 = b at *
  generalize a / 2 = q at *
  generalize a % 2 = r at *
  generalize l[0]?.getD 0 % 2 = z at *
  grind
theorem half_end {H : Nat} {l ol : List Nat} (h0 : ol.length = l.length)
    (h : 2 * val (2 * H) (ol.take ol.length) + l[0]?.getD 0 % 2 = val (2 * H) (l.take ol.length) + l[ol.length]?.getD 0 % 2 * (2 * H) ^ ol.length) : val (2 * H) ol = val (2 * H) l / 2 := by
  rw [val_take_all _ _ _ (Nat.le_refl _), val_take_all _ _ _ (by omega), List.getElem?_eq_none (by omega : l.length ≤ ol.length)] at h
  simp at h
  omega
def bl (n : Nat) : Nat := if n = 0 then 0 else Nat.log2 n + 1
theorem bl_zero : bl 0 = 0 := rfl
theorem lt_two_pow_bl (n : Nat) : n < 2 ^ bl n := by
  unfold bl
  split
  · omega
  · exact Nat.lt_log2_self
theorem two_pow_bl_le {n : Nat} (h : 0 < n) : 2 ^ bl n ≤ 2 * n := by
  unfold bl
  rw [if_neg (by omega), Nat.pow_succ, Nat.mul_comm]
  have := Nat.log2_self_le (n := n) (by omega)
  omega
theorem bl_pos {n : Nat} (h : 0 < n) : 0 < bl n := by unfold bl; rw [if_neg (by omega)]; omega
theorem bl_eq_of {n k : Nat} (h1 : n < 2 ^ k) (h2 : 2 ^ k ≤ 2 * n) : bl n = k := by
  have a1 := lt_two_pow_bl n
  have a2 : 2 ^ bl n ≤ 2 * n := by
    rcases Nat.eq_zero_or_pos n with h | h
    · subst h; have := Nat.pow_pos (n := k) (show 0 < 2 from by omega); omega
    · exact two_pow_bl_le h
  have b1 : 2 ^ k < 2 ^ (bl n + 1) := by rw [Nat.pow_succ]; omega
  have b2 : 2 ^ bl n < 2 ^ (k + 1) := by rw [Nat.pow_succ]; omega
  have c1 := (Nat.pow_lt_pow_iff_right (by omega : 1 < 2)).1 b1
  have c2 := (Nat.pow_lt_pow_iff_right (by omega : 1 < 2)).1 b2
  omega
theorem bl_half {n : Nat} (h : 0 < n) : bl n = bl (n / 2) + 1 := by
  apply bl_eq_of
  · have := lt_two_pow_bl (n / 2)
    rw [Nat.pow_succ]; omega
  · rcases Nat.eq_zero_or_pos (n / 2) with h' | h'
    · rw [h', bl_zero]; omega
    · have := two_pow_bl_le h'
      rw [Nat.pow_succ]; omega
theorem bl_mono {m n : Nat} (h : m ≤ n) : bl m ≤ bl n := by
  rcases Nat.eq_zero_or_pos m with h' | h'
  · subst h'; exact Nat.zero_le _
  · have a1 := two_pow_bl_le h'
    have a2 := lt_two_pow_bl n
    have : 2 ^ bl m < 2 ^ (bl n + 1) := by rw [Nat.pow_succ]; omega
    have := (Nat.pow_lt_pow_iff_right (by omega : 1 < 2)).1 this
    omega
theorem bl_le_of_lt {n k : Nat} (h : n < 2 ^ k) : bl n ≤ k := by
  rcases Nat.eq_zero_or_pos n with h' | h'
  · subst h'; exact Nat.zero_le _
  · have a1 := two_pow_bl_le h'
    have : 2 ^ bl n < 2 ^ (k + 1) := by rw [Nat.pow_succ]; omega
    have := (Nat.pow_lt_pow_iff_right (by omega : 1 < 2)).1 this
    omega
theorem bl_val (s : Nat) {l : List Nat} (hl : Digs (2 ^ s) l) (n : Nat) (hn : l.length = n + 1) (ht : 0 < l[n]?.getD 0) : bl (val (2 ^ s) l) = s * n + bl (l[n]?.getD 0) := by
  have h := val_take_succ (2 ^ s) l n (by omega)
  rw [val_take_all _ _ _ (by omega)] at h
  have h1 := val_lt (B := 2 ^ s) (Nat.pow_pos (by omega)) (hl.take n)
  rw [List.length_take, Nat.min_eq_left (by omega)] at h1
  generalize l[n]?.getD 0 = t at *
  rw [h]
  generalize val (2 ^ s) (l.take n) = v at *
  have a1 := lt_two_pow_bl t
  have a2 := two_pow_bl_le ht
  have e : (2 ^ s) ^ n = 2 ^ (s * n) := by rw [← Nat.pow_mul]
  rw [e] at h1 ⊢
  apply bl_eq_of
  · rw [Nat.pow_add]
    have : 2 ^ (s * n) * (t + 1) ≤ 2 ^ (s * n) * 2 ^ bl t := Nat.mul_le_mul_left _ a1
    rw [Nat.mul_add, Nat.mul_one] at this
    omega
  · rw [Nat.pow_add]
    have : 2 ^ (s * n) * 2 ^ bl t ≤ 2 ^ (s * n) * (2 * t) := Nat.mul_le_mul_left _ a2
    rw [show 2 ^ (s * n) * (2 * t) = 2 * (2 ^ (s * n) * t) from by grind] at this
    omega
theorem mul_step (B : Nat) (l' ol : List Nat) (i k a carry V x : Nat) (hk : i + k < ol.length)
    (h : val B ol + carry * B ^ (i + k) = V + a * val B (l'.take k) * B ^ i) (hx : ol[i + k]?.getD 0 + carry + a * l'[k]?.getD 0 = x) :
    val B (ol.set (i + k) (x % B)) + x / B * B ^ (i + (k + 1)) = V + a * val B (l'.take (k + 1)) * B ^ i := by
  have h1 := val_set B ol (i + k) (x % B) hk
  rw [val_take_succ']
  have h2 := Nat.div_add_mod x B
  generalize val B (ol.set (i + k) (x % B)) = V1 at *
  generalize ol[i + k]?.getD 0 = o at *
  generalize l'[k]?.getD 0 = b at *
  generalize x / B = q at *
  generalize x % B = r at *
  rw [show i + (k + 1) = (i + k) + 1 from rfl, Nat.pow_succ]
  rw [Nat.pow_add] at *
  generalize B ^ i = P at *
  generalize B ^ k = Q at *
  subst hx
  grind
theorem bit_room (s : Nat) (hs : 0 < s) {l : List Nat} (hl : Digs (2 ^ s) l) (i : Nat) (hi : i / s < l.length) (h : val (2 ^ s) l % 2 ^ (i + 1) = 0) : l[i / s]?.getD 0 + 2 ^ (i % s) < 2 ^ s := by
  have hr : i % s < s := Nat.mod_lt _ hs
  have hd := hl.get (B := 2 ^ s) (Nat.pow_pos (by omega)) (i / s)
  have h1 := val_split (2 ^ s) l (i / s) (by omega)
  rw [val_drop_succ _ _ _ hi] at h1
  have h2 := val_lt (B := 2 ^ s) (Nat.pow_pos (by omega)) (hl.take (i / s))
  rw [List.length_take, Nat.min_eq_left (by omega)] at h2
  generalize l[i / s]?.getD 0 = a at *
  generalize val (2 ^ s) (l.take (i / s)) = v at *
  generalize val (2 ^ s) (l.drop (i / s + 1)) = z at *
  have e : 2 ^ (i + 1) = (2 ^ s) ^ (i / s) * 2 ^ (i % s + 1) := by
    rw [← Nat.pow_mul, ← Nat.pow_add]
    congr 1
    have := Nat.div_add_mod i s
    omega
  rw [e] at h
  rw [h1] at h
  have hv : v = 0 := by
    have := Nat.mod_mul_right_mod (v + (2 ^ s) ^ (i / s) * (a + 2 ^ s * z)) ((2 ^ s) ^ (i / s)) (2 ^ (i % s + 1))
    rw [h, Nat.zero_mod, Nat.add_mul_mod_self_left, Nat.mod_eq_of_lt h2] at this
    exact this.symm
  subst hv
  rw [Nat.zero_add, Nat.mul_mod_mul_left] at h
  have hP : 0 < (2 ^ s) ^ (i / s) := Nat.pow_pos (Nat.pow_pos (by omega))
  have h3 : (a + 2 ^ s * z) % 2 ^ (i % s + 1) = 0 := by
    rcases Nat.mul_eq_zero.1 h with h' | h'
    · omega
    · exact h'
  have e2 : 2 ^ s = 2 ^ (i % s + 1) * 2 ^ (s - (i % s + 1)) := by rw [← Nat.pow_add]; congr 1; omega
  rw [e2, Nat.mul_assoc, Nat.add_mul_mod_self_left] at h3
  have h4 := Nat.div_add_mod a (2 ^ (i % s + 1))
  rw [h3, Nat.add_zero] at h4
  rw [e2] at hd ⊢
  generalize a / 2 ^ (i % s + 1) = q at *
  rw [← h4] at hd ⊢
  have h5 : q < 2 ^ (s - (i % s + 1)) := Nat.lt_of_mul_lt_mul_left hd
  have h6 : 2 ^ (i % s + 1) * (q + 1) ≤ 2 ^ (i % s + 1) * 2 ^ (s - (i % s + 1)) := Nat.mul_le_mul_left _ h5
  have h7 : 2 ^ (i % s + 1) = 2 ^ (i % s) * 2 := Nat.pow_succ ..
  have h8 := Nat.pow_pos (n := i % s) (show 0 < 2 from by omega)
  rw [Nat.mul_add, Nat.mul_one] at h6
  omega
theorem val_set_bit (s : Nat) (l : List Nat) (i : Nat) (hi : i / s < l.length) : val (2 ^ s) (l.set (i / s) (l[i / s]?.getD 0 + 2 ^ (i % s))) = val (2 ^ s) l + 2 ^ i := by
  have := val_set (2 ^ s) l (i / s) (l[i / s]?.getD 0 + 2 ^ (i % s)) hi
  have e : 2 ^ i = (2 ^ s) ^ (i / s) * 2 ^ (i % s) := by
    rw [← Nat.pow_mul, ← Nat.pow_add, Nat.div_add_mod]
  rw [e]
  rw [Nat.mul_add] at this
  omega
theorem quo_step {a d q b i A : Nat} (hd : d = b * 2 ^ i) (h1 : q * b + a = A) (h2 : a < b * 2 ^ (i + 1)) (h3 : q % 2 ^ (i + 1) = 0) (hge : d ≤ a) :
    (q + 2 ^ i) * b + (a - d) = A ∧ a - d < b * 2 ^ i ∧ (q + 2 ^ i) % 2 ^ i = 0 := by
  subst hd
  refine ⟨?_, ?_, ?_⟩
  · rw [Nat.add_mul, Nat.mul_comm (2 ^ i) b]; omega
  · rw [Nat.pow_succ] at h2
    have : b * (2 ^ i * 2) = b * 2 ^ i + b * 2 ^ i := by grind
    omega
  · rw [Nat.add_mod_right]
    have := Nat.mod_mul_right_mod q (2 ^ i) 2
    rw [← Nat.pow_succ, h3, Nat.zero_mod] at this
    exact this.symm
theorem quo_skip {q i : Nat} (h3 : q % 2 ^ (i + 1) = 0) : q % 2 ^ i = 0 := by
  have := Nat.mod_mul_right_mod q (2 ^ i) 2
  rw [← Nat.pow_succ, h3, Nat.zero_mod] at this
  exact this.symm
theorem shift_half (b i : Nat) : b * 2 ^ (i + 1) / 2 = b * 2 ^ i := by
  rw [Nat.pow_succ, ← Nat.mul_assoc, Nat.mul_div_cancel _ (by omega)]
theorem quo_end {q b a A : Nat} (h1 : q * b + a = A) (h2 : a < b) : q = A / b ∧ a = A % b := by
  subst h1
  have hb : 0 < b := by omega
  rw [Nat.mul_comm q b]
  constructor
  · rw [Nat.mul_add_div hb, Nat.div_eq_of_lt h2, Nat.add_zero]
  · rw [Nat.mul_add_mod, Nat.mod_eq_of_lt h2]
theorem quo_start {a b : Nat} (hb : 0 < b) (n : Nat) (h : bl a = n + bl b) : a < b * 2 ^ (n + 1) := by
  have h1 := lt_two_pow_bl a
  have h2 := two_pow_bl_le hb
  rw [h, Nat.pow_add] at h1
  have : 2 ^ n * 2 ^ bl b ≤ 2 ^ n * (2 * b) := Nat.mul_le_mul_left _ h2
  rw [Nat.pow_succ]
  have : 2 ^ n * (2 * b) = b * (2 ^ n * 2) := by grind
  omega
theorem lt_of_bl {a b : Nat} (h : bl a < bl b) : a < b := by
  rcases Nat.lt_or_ge a b with h' | h'
  · exact h'
  · have := bl_mono h'; omega
end Go.Proofs.YtkfekkhhfpkfaaaGreat.Dg
namespace Go.Proofs.YtkfekkhhfpkfaaaGreat.Dg
def dgs (n : Nat) : List UInt8 := if h : n = 0 then [] else dgs (n / 10) ++ [UInt8.ofNat (48 + n % 10)]
termination_by n
decreasing_by omega
def pad : Nat → Nat → List UInt8
  | 0, _ => []
  | k + 1, n => pad k (n / 10) ++ [UInt8.ofNat (48 + n % 10)]
def decS (n : Nat) : List UInt8 := if n = 0 then [48] else dgs n
theorem dgs_zero : dgs 0 = [] := by rw [dgs]; simp
theorem dgs_succ {n : Nat} (h : n ≠ 0) : dgs n = dgs (n / 10) ++ [UInt8.ofNat (48 + n % 10)] := by rw [dgs]; simp [h]
theorem pad_length : ∀ k n, (pad k n).length = k
  | 0, _ => rfl
  | k + 1, n => by simp [pad, pad_length k]
theorem pad_add (a : Nat) : ∀ b n, pad (a + b) n = pad a (n / 10 ^ b) ++ pad b n
  | 0, n => by simp [pad]
  | b + 1, n => by
    rw [← Nat.add_assoc, pad, pad, pad_add a b, Nat.pow_succ, Nat.div_div_eq_div_mul, Nat.mul_comm 10, List.append_assoc]
theorem pad_succ_front (k n : Nat) : pad (k + 1) n = UInt8.ofNat (48 + n / 10 ^ k % 10) :: pad k n := by
  rw [Nat.add_comm, pad_add 1 k]
  simp [pad]
theorem dgs_append (k : Nat) : ∀ {q r : Nat}, 0 < q → r < 10 ^ k → dgs (q * 10 ^ k + r) = dgs q ++ pad k r := by
  induction k with
  | zero => intro q r _ hr; simp at hr; subst hr; simp [pad]
  | succ k ih =>
    intro q r hq hr
    have hpos := Nat.pow_pos (n := k) (show 0 < 10 by omega)
    have e : q * 10 ^ (k + 1) = q * 10 ^ k * 10 := by rw [Nat.pow_succ, Nat.mul_assoc]
    have h1 : 0 < q * 10 ^ k := Nat.mul_pos hq hpos
    rw [dgs_succ (by omega), e]
    rw [show (q * 10 ^ k * 10 + r) / 10 = q * 10 ^ k + r / 10 from by omega, show (q * 10 ^ k * 10 + r) % 10 = r % 10 from by omega]
    rw [ih hq (by rw [Nat.pow_succ] at hr; omega), pad, List.append_assoc]
theorem dgs_small (k : Nat) : ∀ {r : Nat}, dgs r = dgs (r / 10 ^ k) ++ pad k (r % 10 ^ k) ∨ r < 10 ^ k := by
  intro r
  by_cases h : r < 10 ^ k
  · exact .inr h
  · left
    have hpos := Nat.pow_pos (n := k) (show 0 < 10 by omega)
    have := dgs_append k (q := r / 10 ^ k) (r := r % 10 ^ k) (Nat.div_pos (by omega) hpos) (Nat.mod_lt _ hpos)
    rw [← this, Nat.mul_comm, Nat.div_add_mod]
theorem pad_mod (k : Nat) : ∀ n, pad k (n % 10 ^ k) = pad k n := by
  induction k with
  | zero => intro n; rfl
  | succ k ih =>
    intro n
    rw [pad, pad]
    rw [show n % 10 ^ (k + 1) % 10 = n % 10 from by rw [Nat.pow_succ, Nat.mul_comm, Nat.mod_mul_right_mod]]
    rw [show n % 10 ^ (k + 1) / 10 = n / 10 % 10 ^ k from by rw [Nat.pow_succ, Nat.mul_comm, Nat.mod_mul_right_div_self]]
    rw [ih]
theorem dgs_split (k : Nat) {r : Nat} (h : 0 < r / 10 ^ k) : dgs r = dgs (r / 10 ^ k) ++ pad k r := by
  rcases dgs_small k (r := r) with h' | h'
  · rw [h', pad_mod]
  · rw [Nat.div_eq_of_lt h'] at h; omega
theorem dgs_length : ∀ n, (dgs n).length ≤ bl n := by
  intro n
  induction n using Nat.strongRecOn with
  | _ n ih =>
    by_cases h : n = 0
    · subst h; rw [dgs_zero]; exact Nat.zero_le _
    · rw [dgs_succ h, List.length_append, List.length_singleton, bl_half (by omega)]
      have h1 := ih (n / 10) (by omega)
      have h2 := bl_mono (show n / 10 ≤ n / 2 by omega)
      omega
theorem digit_of : ∀ d : Nat, d < 10 → (ByteArray.mk #[48, 49, 50, 51, 52, 53, 54, 55, 56, 57]).extract d (d + 1) = ⟨[UInt8.ofNat (48 + d)].toArray⟩ := by decide
theorem bytes_append (a b : List UInt8) : (ByteArray.mk a.toArray) ++ (ByteArray.mk b.toArray) = ⟨(a ++ b).toArray⟩ := by
  apply ByteArray.ext
  simp
end Go.Proofs.YtkfekkhhfpkfaaaGreat.Dg
namespace Go.Proofs.YtkfekkhhfpkfaaaGreat.Dg
theorem or_add (s a b : Nat) (ha : a % 2 ^ s = 0) (hb : b < 2 ^ s) : a ||| b = a + b := by
  have h := Nat.div_add_mod a (2 ^ s)
  rw [ha, Nat.add_zero] at h
  rw [← h, Nat.two_pow_add_eq_or_of_lt hb]
theorem or_add' (s a b : Nat) (ha : a % 2 ^ s = 0) (hb : b < 2 ^ s) : b ||| a = a + b := by rw [Nat.or_comm, or_add s a b ha hb]
theorem shl_mod (s x : Nat) (hs : s ≤ 64) : x * 2 ^ s % 18446744073709551616 % 2 ^ s = 0 := by
  rw [show (18446744073709551616 : Nat) = 2 ^ s * 2 ^ (64 - s) from by rw [← Nat.pow_add, show s + (64 - s) = 64 from by omega]]
  rw [Nat.mod_mul_right_mod, Nat.mul_mod_left]
theorem shr_eq (s x : Nat) (hs : s ≤ 64) : x / 2 ^ (64 - s) = x * 2 ^ s / 18446744073709551616 := by
  rw [show (18446744073709551616 : Nat) = 2 ^ (64 - s) * 2 ^ s from by rw [← Nat.pow_add, show 64 - s + s = 64 from by omega]]
  rw [Nat.mul_div_mul_right _ _ (Nat.pow_pos (by omega))]
theorem shr_lt (s x : Nat) (hx : x < 18446744073709551616) : x * 2 ^ s / 18446744073709551616 < 2 ^ s := by
  rw [Nat.div_lt_iff_lt_mul (by omega), Nat.mul_comm]
  exact Nat.mul_lt_mul_of_pos_left hx (Nat.pow_pos (by omega))
theorem left_step (l ol : List Nat) (i q s : Nat) (hk : i + q + 1 < ol.length) (hs : s < 64) (hd : Digs 18446744073709551616 ol) (hl : l[i]?.getD 0 < 18446744073709551616)
    (h : val 18446744073709551616 ol = val 18446744073709551616 (l.take i) * 2 ^ s * 18446744073709551616 ^ q) (hc : ol[i + q]?.getD 0 < 2 ^ s) (hz : ∀ j, i + q < j → ol[j]?.getD 0 = 0) :
    let ol' := (ol.set (i + q) (ol[i + q]?.getD 0 ||| (l[i]?.getD 0 * 2 ^ s % 18446744073709551616))).set (i + q + 1) (l[i]?.getD 0 / 2 ^ (64 - s))
    val 18446744073709551616 ol' = val 18446744073709551616 (l.take (i + 1)) * 2 ^ s * 18446744073709551616 ^ q ∧ ol'[i + 1 + q]?.getD 0 < 2 ^ s ∧ (∀ j, i + 1 + q < j → ol'[j]?.getD 0 = 0) ∧ Digs 18446744073709551616 ol' ∧ ol'.length = ol.length := by
  intro ol'
  have e1 := or_add' s _ _ (shl_mod s (l[i]?.getD 0) (by omega)) hc
  have hlt : ol[i + q]?.getD 0 ||| (l[i]?.getD 0 * 2 ^ s % 18446744073709551616) < 18446744073709551616 := Nat.or_lt_two_pow (n := 64) (hd.get (by omega) _) (Nat.mod_lt _ (by omega))
  have e2 := shr_eq s (l[i]?.getD 0) (by omega)
  have hlt2 := shr_lt s _ hl
  refine ⟨?_, ?_, ?_, ?_, by simp [ol']⟩
  · have h1 := val_set 18446744073709551616 ol (i + q) (ol[i + q]?.getD 0 ||| (l[i]?.getD 0 * 2 ^ s % 18446744073709551616)) (by omega)
    have h2 := val_set 18446744073709551616 (ol.set (i + q) (ol[i + q]?.getD 0 ||| (l[i]?.getD 0 * 2 ^ s % 18446744073709551616))) (i + q + 1) (l[i]?.getD 0 / 2 ^ (64 - s)) (by rw [List.length_set]; omega)
    rw [get_set _ _ _ _ (by omega), if_neg (by omega), hz (i + q + 1) (by omega), Nat.mul_zero, Nat.add_zero] at h2
    show val _ ol' = _
    rw [h2, val_take_succ']
    rw [e1] at h1 ⊢
    rw [e2]
    have h3 := Nat.div_add_mod (l[i]?.getD 0 * 2 ^ s) 18446744073709551616
    generalize l[i]?.getD 0 * 2 ^ s / 18446744073709551616 = hi at *
    generalize l[i]?.getD 0 * 2 ^ s % 18446744073709551616 = lo at *
    rw [Nat.pow_add] at h1
    rw [Nat.pow_succ, Nat.pow_add]
    generalize val 18446744073709551616 (ol.set (i + q) (lo + ol[i + q]?.getD 0)) = X at *
    generalize val 18446744073709551616 ol = Y at *
    generalize val 18446744073709551616 (l.take i) = Z at *
    generalize 18446744073709551616 ^ i = Bi at *
    generalize 18446744073709551616 ^ q = Bq at *
    generalize l[i]?.getD 0 = x at *
    generalize ol[i + q]?.getD 0 = o at *
    generalize 2 ^ s = p at *
    grind
  · show (ol'[i + 1 + q]?.getD 0) < _
    rw [get_set _ _ _ _ (by rw [List.length_set]; omega), if_pos (by omega), e2]
    exact hlt2
  · intro j hj
    rw [get_set _ _ _ _ (by rw [List.length_set]; omega), if_neg (by omega), get_set _ _ _ _ (by omega), if_neg (by omega)]
    exact hz j (by omega)
  · refine (hd.set _ _ hlt).set _ _ ?_
    rw [e2]
    have : 2 ^ s ≤ 2 ^ 64 := Nat.pow_le_pow_right (by omega) (by omega)
    have e : (2 : Nat) ^ 64 = 18446744073709551616 := rfl
    omega
theorem right_step (m ol : List Nat) (i s : Nat) (hk : i < ol.length) (hs : s < 64) (hm : Digs 18446744073709551616 m)
    (h : val 18446744073709551616 (ol.take i) * 2 ^ s + m[0]?.getD 0 % 2 ^ s = val 18446744073709551616 (m.take i) + m[i]?.getD 0 % 2 ^ s * 18446744073709551616 ^ i) :
    let d := m[i]?.getD 0 / 2 ^ s ||| (m[i + 1]?.getD 0 * 2 ^ (64 - s) % 18446744073709551616)
    d < 18446744073709551616 ∧ val 18446744073709551616 ((ol.set i d).take (i + 1)) * 2 ^ s + m[0]?.getD 0 % 2 ^ s = val 18446744073709551616 (m.take (i + 1)) + m[i + 1]?.getD 0 % 2 ^ s * 18446744073709551616 ^ (i + 1) := by
  intro d
  have hB : (18446744073709551616 : Nat) = 2 ^ s * 2 ^ (64 - s) := by rw [← Nat.pow_add, show s + (64 - s) = 64 from by omega]
  have h1 := hm.get (by omega) i
  have e1 : m[i + 1]?.getD 0 * 2 ^ (64 - s) % 18446744073709551616 = m[i + 1]?.getD 0 % 2 ^ s * 2 ^ (64 - s) := by
    rw [hB, Nat.mul_mod_mul_right]
  have hlo : m[i]?.getD 0 / 2 ^ s < 2 ^ (64 - s) := by
    rw [Nat.div_lt_iff_lt_mul (Nat.pow_pos (by omega)), Nat.mul_comm, ← hB]; exact h1
  have e2 : d = m[i + 1]?.getD 0 % 2 ^ s * 2 ^ (64 - s) + m[i]?.getD 0 / 2 ^ s := by
    show _ ||| _ = _
    rw [e1]
    exact or_add' (64 - s) _ _ (Nat.mul_mod_left _ _) hlo
  have hd : d < 18446744073709551616 := by
    refine Nat.or_lt_two_pow (n := 64) ?_ (Nat.mod_lt _ (by omega))
    exact Nat.lt_of_le_of_lt (Nat.div_le_self _ _) h1
  refine ⟨hd, ?_⟩
  rw [val_take_set_succ _ _ _ _ hk, val_take_succ', e2, Nat.pow_succ]
  have h3 := Nat.div_add_mod (m[i]?.getD 0) (2 ^ s)
  generalize m[i]?.getD 0 / 2 ^ s = hi at *
  generalize m[i]?.getD 0 % 2 ^ s = lo at *
  generalize m[i + 1]?.getD 0 % 2 ^ s = lo' at *
  generalize 2 ^ (64 - s) = H at *
  generalize 2 ^ s = p at *
  generalize val 18446744073709551616 (ol.take i) = X at *
  generalize val 18446744073709551616 (m.take i) = Y at *
  generalize m[i]?.getD 0 = x at *
  generalize 18446744073709551616 ^ i = Bi at *
  clear e1 e2 hd hlo h1 hm d
  rw [hB]
  grind
theorem right_end (m ol : List Nat) (s : Nat) (h0 : ol.length = m.length)
    (h : val 18446744073709551616 (ol.take m.length) * 2 ^ s + m[0]?.getD 0 % 2 ^ s = val 18446744073709551616 (m.take m.length) + m[m.length]?.getD 0 % 2 ^ s * 18446744073709551616 ^ m.length) :
    val 18446744073709551616 ol = val 18446744073709551616 m / 2 ^ s := by
  rw [val_take_all _ _ _ (by omega), val_take_all _ _ _ (Nat.le_refl _), List.getElem?_eq_none (Nat.le_refl _)] at h
  simp only [Option.getD_none, Nat.zero_mod, Nat.zero_mul, Nat.add_zero] at h
  have h1 := Nat.mod_lt (m[0]?.getD 0) (show 0 < 2 ^ s from Nat.pow_pos (by omega))
  exact (quo_end h h1).1
theorem val_drop_div {l : List Nat} (hl : Digs 18446744073709551616 l) (q : Nat) : val 18446744073709551616 (l.drop q) = val 18446744073709551616 l / 18446744073709551616 ^ q := by
  rcases Nat.lt_or_ge q l.length with h | h
  · have h1 := val_split 18446744073709551616 l q (by omega)
    have h2 := val_lt (by omega) (hl.take q)
    rw [List.length_take, Nat.min_eq_left (by omega)] at h2
    exact (quo_end (by rw [h1, Nat.mul_comm, Nat.add_comm]) h2).1
  · rw [List.drop_of_length_le h]
    have h2 := val_lt (by omega) hl
    have : 18446744073709551616 ^ l.length ≤ 18446744073709551616 ^ q := Nat.pow_le_pow_right (by omega) h
    rw [Nat.div_eq_of_lt (by omega)]
    rfl
theorem pow_split (k : Nat) : 2 ^ (k % 64) * 18446744073709551616 ^ (k / 64) = 2 ^ k := by
  rw [show (18446744073709551616 : Nat) = 2 ^ 64 from rfl, ← Nat.pow_mul, ← Nat.pow_add]
  congr 1
  omega
theorem guess_start (U a b u : Nat) (ha : 0 < a) (hu : u < 4294967296) : (U * 4294967296 + u) / (a * 4294967296 + b) ≤ U / a := by
  have h1 := Nat.div_add_mod U a
  have h2 := Nat.mod_lt U ha
  apply Nat.le_of_lt_succ
  rw [Nat.div_lt_iff_lt_mul (by omega)]
  generalize U / a = q at *
  generalize U % a = r at *
  subst h1
  rw [Nat.succ_mul]
  have : q * (a * 4294967296 + b) = a * q * 4294967296 + q * b := by grind
  rw [this]
  omega
theorem guess_big {U a b u q r : Nat} (h : q * a + r = U) (hU : U < a * 4294967296 + b) (hu : u < 4294967296) (hbig : 4294967296 ≤ q ∨ 4294967296 * r + u < q * b) : (U * 4294967296 + u) / (a * 4294967296 + b) < q := by
  rw [Nat.div_lt_iff_lt_mul (by omega)]
  have e : q * (a * 4294967296 + b) = q * a * 4294967296 + q * b := by grind
  rcases hbig with hq | hq
  · have : 4294967296 * (a * 4294967296 + b) ≤ q * (a * 4294967296 + b) := Nat.mul_le_mul_right _ hq
    omega
  · rw [e]
    omega
theorem guess_fits {U a b u q r : Nat} (ha : 0 < a) (h : q * a + r = U) (hle : (U * 4294967296 + u) / (a * 4294967296 + b) ≤ q) (hq : q * b ≤ 4294967296 * r + u) : (U * 4294967296 + u) / (a * 4294967296 + b) = q := by
  refine Nat.le_antisymm hle ?_
  rw [Nat.le_div_iff_mul_le (by omega)]
  have e : q * (a * 4294967296 + b) = q * a * 4294967296 + q * b := by grind
  omega
theorem guess_le {U a b u : Nat} (hU : U < a * 4294967296 + b) (hu : u < 4294967296) : (U * 4294967296 + u) / (a * 4294967296 + b) < 4294967296 := by
  rw [Nat.div_lt_iff_lt_mul (by omega)]
  omega
end Go.Proofs.YtkfekkhhfpkfaaaGreat.Dg
namespace Go.Proofs.YtkfekkhhfpkfaaaGreat.Dg
theorem parts3 (L : List Nat) (k m : Nat) : L = L.take k ++ (L.drop k).take m ++ L.drop (k + m) := by
  rw [List.append_assoc, show L.drop (k + m) = (L.drop k).drop m from by rw [List.drop_drop], List.take_append_drop, List.take_append_drop]
theorem part_val {B : Nat} (hB : 0 < B) {L : List Nat} {k n V : Nat} (hd : Digs B L) (hk : k < L.length) (hV : V ≤ B ^ n) (h : val B (L.drop (k + 1)) < V) :
    val B ((L.drop k).take (n + 1)) = val B (L.drop k) ∧ val B (L.drop k) < B * V ∧ val B (L.drop (k + (n + 1))) = 0 := by
  have h1 := val_drop_succ B L k hk
  have h2 := hd.get hB k
  have h3 : B * (val B (L.drop (k + 1)) + 1) ≤ B * V := Nat.mul_le_mul_left _ h
  rw [Nat.mul_add, Nat.mul_one] at h3
  have h4 : val B (L.drop k) < B * V := by omega
  have h5 : B * V ≤ B ^ (n + 1) := by rw [Nat.pow_succ, Nat.mul_comm]; exact Nat.mul_le_mul_right _ hV
  have e : L.drop k = (L.drop k).take (n + 1) ++ L.drop (k + (n + 1)) := by
    rw [show L.drop (k + (n + 1)) = (L.drop k).drop (n + 1) from by rw [List.drop_drop], List.take_append_drop]
  have h6 := congrArg (val B) e
  rw [val_append] at h6
  by_cases hl : n + 1 ≤ (L.drop k).length
  · rw [List.length_take, Nat.min_eq_left hl] at h6
    have h7 : val B (L.drop (k + (n + 1))) = 0 := by
      rcases Nat.eq_zero_or_pos (val B (L.drop (k + (n + 1)))) with h | h
      · exact h
      · have : B ^ (n + 1) * 1 ≤ B ^ (n + 1) * val B (L.drop (k + (n + 1))) := Nat.mul_le_mul_left _ h
        omega
    rw [h7, Nat.mul_zero, Nat.add_zero] at h6
    exact ⟨h6.symm, h4, h7⟩
  · have h7 : L.drop (k + (n + 1)) = [] := by
      apply List.drop_of_length_le
      rw [List.length_drop] at hl
      omega
    rw [h7] at h6 ⊢
    simp only [val, Nat.mul_zero, Nat.add_zero] at h6
    exact ⟨h6.symm, h4, rfl⟩
theorem long_step {B : Nat} (L ql ol' : List Nat) (k n V A' : Nat) (hkL : k < L.length) (hkq : k < ql.length)
    (hC : val B (L.drop (k + (n + 1))) = 0) (hol : val B ((L.drop k).take (n + 1)) = val B (L.drop k))
    (hol' : val B ol' = val B (L.drop k) % V) (hV : 0 < V)
    (h : val B L + val B (ql.drop (k + 1)) * V * B ^ (k + 1) = A') :
    val B (L.take k ++ ol' ++ L.drop (k + (n + 1))) + val B ((ql.set k (val B (L.drop k) / V)).drop k) * V * B ^ k = A' ∧
      val B ((L.take k ++ ol' ++ L.drop (k + (n + 1))).drop k) < V := by
  have hlk : (L.take k).length = k := by rw [List.length_take]; omega
  have hd : (L.take k ++ ol' ++ L.drop (k + (n + 1))).drop k = ol' ++ L.drop (k + (n + 1)) := by
    rw [List.append_assoc, List.drop_append_of_le_length (by omega), List.drop_of_length_le (by omega), List.nil_append]
  have hv : val B (ol' ++ L.drop (k + (n + 1))) = val B (L.drop k) % V := by
    rw [val_append, hC, Nat.mul_zero, Nat.add_zero, hol']
  refine ⟨?_, by rw [hd, hv]; exact Nat.mod_lt _ hV⟩
  rw [List.append_assoc, val_append, hlk, hv, val_drop_set _ _ _ _ hkq]
  have h1 := val_split B L k (by omega)
  have h2 := Nat.div_add_mod (val B (L.drop k)) V
  rw [← h, h1, Nat.pow_succ]
  generalize val B (L.drop k) / V = q at *
  generalize val B (L.drop k) % V = r at *
  generalize val B (L.drop k) = z at *
  generalize val B (ql.drop (k + 1)) = x at *
  generalize val B (L.take k) = y at *
  generalize B ^ k = P at *
  subst h2
  grind
theorem long_start {B : Nat} (hB : 1 < B) {ll lv : List Nat} {n : Nat} (hd : Digs B ll) (hn : lv.length = n) (hc : Canon B lv) (h1 : 0 < n) (h2 : n ≤ ll.length) :
    val B ((ll ++ [0]).drop (ll.length + 1 - n)) < val B lv := by
  rw [List.drop_append_of_le_length (by omega), val_append]
  have h3 := val_lt (by omega) (hd.drop (ll.length + 1 - n))
  have h4 := hc.ge (by omega)
  rw [List.length_drop, show ll.length - (ll.length + 1 - n) = n - 1 from by omega] at h3
  rw [hn] at h4
  rw [val_one, Nat.mul_zero, Nat.add_zero]
  omega
end Go.Proofs.YtkfekkhhfpkfaaaGreat.Dg
