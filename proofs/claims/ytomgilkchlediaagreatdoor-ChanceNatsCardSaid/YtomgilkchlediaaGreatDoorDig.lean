/-
  Naturals as lists of digits to the base of a thousand million. Plain lemmas, no program.
-/
namespace Go.Proofs.YtomgilkchlediaaGreatDoor

/-- The number that a list of digits, the least first, means. -/
def val : List Int → Int
  | [] => 0
  | d :: l => d + 1000000000 * val l

def Dig (l : List Int) : Prop := ∀ d ∈ l, 0 ≤ d ∧ d < 1000000000
def Canon (l : List Int) : Prop := Dig l ∧ l.getLast? ≠ some 0

theorem Dig.nil : Dig [] := fun d h => by simp at h
theorem Dig.cons {d : Int} {l : List Int} (h : Dig (d :: l)) : (0 ≤ d ∧ d < 1000000000) ∧ Dig l := ⟨h d (by simp), fun x hx => h x (by simp [hx])⟩
theorem Dig.snoc {d : Int} {l : List Int} (h : Dig l) (h0 : 0 ≤ d) (h1 : d < 1000000000) : Dig (l ++ [d]) := fun x hx => by
  simp at hx
  rcases hx with hx | rfl
  · exact h x hx
  · exact ⟨h0, h1⟩
theorem Dig.at_ {l : List Int} (h : Dig l) {k : Nat} (hk : k < l.length) : 0 ≤ l[k] ∧ l[k] < 1000000000 := h _ (List.getElem_mem hk)
theorem Dig.take {l : List Int} (h : Dig l) (k : Nat) : Dig (l.take k) := fun x hx => h x (List.mem_of_mem_take hx)
theorem Canon.nil : Canon [] := ⟨Dig.nil, by simp⟩

theorem val_nonneg {l : List Int} (h : Dig l) : 0 ≤ val l := by
  induction l with
  | nil => simp [val]
  | cons d l ih => have := h.cons; have := ih this.2; simp only [val]; omega

def radix : Nat → Int
  | 0 => 1
  | n + 1 => 1000000000 * radix n
theorem radix_pos (n : Nat) : 0 < radix n := by
  induction n with
  | zero => simp [radix]
  | succ n ih => simp only [radix]; omega
theorem radix_add (m n : Nat) : radix (m + n) = radix m * radix n := by
  induction m with
  | zero => simp [radix]
  | succ m ih => rw [Nat.succ_add]; simp only [radix, ih, Int.mul_assoc]

theorem val_append (l m : List Int) : val (l ++ m) = val l + radix l.length * val m := by
  induction l with
  | nil => simp [val, radix]
  | cons d l ih => simp only [List.cons_append, val, ih, List.length_cons, radix, Int.mul_add, Int.mul_assoc, Int.add_assoc]
theorem val_snoc (l : List Int) (d : Int) : val (l ++ [d]) = val l + radix l.length * d := by rw [val_append]; simp [val]
theorem val_lt {l : List Int} (h : Dig l) : val l < radix l.length := by
  induction l with
  | nil => simp [val, radix]
  | cons d l ih => have := h.cons; have := ih this.2; simp only [val, List.length_cons, radix]; omega
theorem val_zeros (n : Nat) : val (List.replicate n 0) = 0 := by
  induction n with
  | zero => simp [val]
  | succ n ih => simp [List.replicate_succ, val, ih]
theorem val_take_succ (l : List Int) (k : Nat) (h : k < l.length) : val (l.take (k + 1)) = val (l.take k) + radix k * l[k] := by
  rw [List.take_succ_eq_append_getElem h, val_snoc, List.length_take, Nat.min_eq_left (by omega)]

theorem Canon.tail {d : Int} {l : List Int} (h : Canon (d :: l)) : Canon l := by
  refine ⟨h.1.cons.2, fun e => h.2 ?_⟩
  cases l with
  | nil => simp at e
  | cons x l => simpa using e
theorem Canon.zero {l : List Int} (h : Canon l) (h0 : val l = 0) : l = [] := by
  induction l with
  | nil => rfl
  | cons d l ih =>
    have hd := h.1.cons
    have hv := val_nonneg hd.2
    simp only [val] at h0
    have hl := ih h.tail (by omega)
    subst hl
    exact absurd (show ([d] : List Int).getLast? = some 0 by simp; simp [val] at h0; omega) h.2
/-- Two naturals without needless zeros that mean one number are one list. -/
theorem canon_eq {l m : List Int} (h : Canon l) (k : Canon m) (e : val l = val m) : l = m := by
  induction l generalizing m with
  | nil => exact (k.zero (by simpa [val] using e.symm)).symm
  | cons d l ih =>
    cases m with
    | nil => exact h.zero (by simpa [val] using e)
    | cons x m =>
      have h1 := h.1.cons
      have k1 := k.1.cons
      simp only [val] at e
      have hd : d = x := by omega
      subst hd
      rw [ih h.tail k.tail (by omega)]
theorem canon_of_pos {l : List Int} {d : Int} (h : Dig (l ++ [d])) (hd : d ≠ 0) : Canon (l ++ [d]) := ⟨h, by simpa using hd⟩
theorem Canon.last {l : List Int} (h : Canon l) (hk : 0 < l.length) : l[l.length - 1] ≠ 0 := fun e => h.2 (by
  rw [List.getLast?_eq_getElem?, List.getElem?_eq_getElem (by omega), e])
theorem canon_of_last {l : List Int} (h : Dig l) (hk : ∀ h : 0 < l.length, l[l.length - 1] ≠ 0) : Canon l := ⟨h, fun e => by
  rw [List.getLast?_eq_getElem?] at e
  obtain ⟨h1, h2⟩ := List.getElem?_eq_some_iff.1 e
  exact hk (by omega) h2⟩
theorem Canon.lower {l : List Int} (h : Canon l) (hk : 0 < l.length) : radix (l.length - 1) ≤ val l := by
  obtain ⟨m, d, rfl⟩ : ∃ m d, l = m ++ [d] := ⟨l.dropLast, l.getLast (by intro e; simp [e] at hk), (List.dropLast_concat_getLast _).symm⟩
  have hd := h.1 d (by simp)
  have hm : Dig m := fun x hx => h.1 x (by simp [hx])
  have h0 : d ≠ 0 := fun e => h.2 (by simp [e])
  rw [val_snoc]
  have := val_nonneg hm
  have hr := radix_pos m.length
  simp only [List.length_append, List.length_cons, List.length_nil, Nat.zero_add, Nat.add_sub_cancel]
  have : radix m.length * 1 ≤ radix m.length * d := Int.mul_le_mul_of_nonneg_left (by omega) (by omega)
  omega
theorem radix_mono {m n : Nat} (h : m ≤ n) : radix m ≤ radix n := by
  obtain ⟨k, rfl⟩ := Nat.exists_eq_add_of_le h
  rw [radix_add]
  have := radix_pos m
  have := radix_pos k
  have : radix m * 1 ≤ radix m * radix k := Int.mul_le_mul_of_nonneg_left (by omega) (by omega)
  omega
theorem length_le_of_val {l m : List Int} (h : Canon l) (k : Dig m) (e : val l ≤ val m) : l.length ≤ m.length := by
  rcases Nat.lt_or_ge m.length l.length with hlt | hge
  · have h1 := h.lower (by omega)
    have h2 := val_lt k
    have h3 := radix_mono (show m.length ≤ l.length - 1 by omega)
    omega
  · exact hge
theorem canon_of_lower {l : List Int} (h : Dig l) (hk : 0 < l.length → radix (l.length - 1) ≤ val l) : Canon l := by
  refine canon_of_last h fun h0 e => ?_
  have h1 := hk h0
  have h2 : val l = val (l.take (l.length - 1)) + radix (l.length - 1) * l[l.length - 1] := by
    conv => lhs; rw [← List.take_length (l := l), show l.length = l.length - 1 + 1 from by omega]
    rw [val_take_succ l (l.length - 1) (by omega)]
  have h3 := val_lt (h.take (l.length - 1))
  rw [List.length_take, Nat.min_eq_left (by omega)] at h3
  rw [h2, e] at h1
  omega
theorem val_take_add {l : List Int} (k : Nat) : val (l.take (k + 1)) = val (l.take k) + radix k * (if h : k < l.length then l[k] else 0) := by
  by_cases h : k < l.length
  · rw [dif_pos h, val_take_succ l k h]
  · rw [dif_neg h, List.take_of_length_le (by omega), List.take_of_length_le (by omega)]; simp
theorem val_take_all {l : List Int} {k : Nat} (h : l.length ≤ k) : val (l.take k) = val l := by rw [List.take_of_length_le h]

/-- Numbers of at most a thousand digits. -/
structure Small (n : Int) : Prop where
  lt : n < radix 1000
theorem Small.len {l : List Int} (h : Canon l) (hs : Small (val l)) : l.length ≤ 1000 := by
  have hs := hs.lt
  rcases Nat.lt_or_ge 1000 l.length with hlt | hge
  · have h1 := h.lower (by omega)
    have h2 := radix_mono (show 1000 ≤ l.length - 1 by omega)
    omega
  · exact hge
theorem small_of_len {l : List Int} (h : Dig l) (hl : l.length ≤ 1000) : Small (val l) := by
  constructor
  have h1 := val_lt h
  have h2 := radix_mono hl
  omega
theorem small_of_radix {n : Int} (k : Nat) (hk : k ≤ 1000) (h : n < radix k) : Small n := by
  constructor
  have h2 := radix_mono hk
  omega
theorem Small.mono {m n : Int} (h : Small n) (hm : m ≤ n) : Small m := ⟨by have := h.lt; omega⟩
theorem small_of_lit {n : Int} (h : n < 1000000000000000000000000000000000000000000000000000000000000000) : Small n :=
  small_of_radix 7 (by omega) (by simp only [radix]; omega)

theorem val_set (l : List Int) (k : Nat) (z : Int) (h : k < l.length) : val (l.set k z) = val l + radix k * (z - l[k]) := by
  induction l generalizing k with
  | nil => simp at h
  | cons d l ih =>
    cases k with
    | zero => simp [val, radix]; omega
    | succ k =>
      simp only [List.set_cons_succ, val, List.getElem_cons_succ, radix]
      rw [ih k (by simpa using h)]
      grind
theorem Dig.set {l : List Int} (h : Dig l) (k : Nat) {z : Int} (h0 : 0 ≤ z) (h1 : z < 1000000000) : Dig (l.set k z) := fun x hx => by
  rcases List.mem_or_eq_of_mem_set hx with hx | rfl
  · exact h x hx
  · exact ⟨h0, h1⟩
theorem Dig.zeros (n : Nat) : Dig (List.replicate n 0) := fun x hx => by
  have := (List.mem_replicate.1 hx).2
  subst this
  omega

/-- One step of a sum of two naturals. -/
theorem sum_step {os xs ys : List Int} {k : Nat} {cv n : Int} (hlen : os.length = k) (hv : val os + radix k * cv = val (xs.take k) + val (ys.take k))
    (hn : n = (if h : k < xs.length then xs[k] else 0) + (if h : k < ys.length then ys[k] else 0)) :
    val (os ++ [(n + cv) % 1000000000]) + radix (k + 1) * ((n + cv) / 1000000000) = val (xs.take (k + 1)) + val (ys.take (k + 1)) := by
  rw [val_snoc, val_take_add, val_take_add, hlen]
  simp only [radix]
  have e : n + cv = 1000000000 * ((n + cv) / 1000000000) + (n + cv) % 1000000000 := by omega
  generalize (n + cv) / 1000000000 = q at *
  generalize (n + cv) % 1000000000 = r at *
  generalize (if h : k < xs.length then xs[k] else 0) = x at *
  generalize (if h : k < ys.length then ys[k] else 0) = y at *
  generalize radix k = R at *
  grind
/-- The end of a sum: no digit is needless. -/
theorem sum_end {os xs ys : List Int} (hd : Dig os) (hx : Canon xs) (hy : Dig ys) (hlen : os.length = xs.length) (hv : val os = val xs + val ys) : Canon os :=
  canon_of_lower hd fun h0 => by
    have := hx.lower (by omega)
    have := val_nonneg hy
    rw [hlen]
    omega

/-- One step of a product: a digit of the one times a digit of the other, onto what is there. -/
theorem prod_step {os ys : List Int} {i k : Nat} {x cv P : Int} (hk : k < ys.length) (hi : i + k < os.length)
    (hv : val os + radix (i + k) * cv = P + radix i * (x * val (ys.take k))) :
    val (os.set (i + k) ((os[i + k] + x * ys[k] + cv) % 1000000000)) + radix (i + (k + 1)) * ((os[i + k] + x * ys[k] + cv) / 1000000000) = P + radix i * (x * val (ys.take (k + 1))) := by
  rw [val_set _ _ _ hi, val_take_succ ys k hk]
  have e1 : radix (i + (k + 1)) = 1000000000 * radix (i + k) := by rw [← Nat.add_assoc]; rfl
  have e2 : radix (i + k) = radix i * radix k := radix_add i k
  rw [e1]
  generalize os[i + k] = o at *
  have e : o + x * ys[k] + cv = 1000000000 * ((o + x * ys[k] + cv) / 1000000000) + (o + x * ys[k] + cv) % 1000000000 := by omega
  generalize (o + x * ys[k] + cv) / 1000000000 = q at *
  generalize (o + x * ys[k] + cv) % 1000000000 = r at *
  generalize ys[k] = y at *
  generalize val (ys.take k) = Y at *
  generalize val os = O at *
  generalize radix (i + k) = T at *
  grind
/-- The end of a row of a product: what is carried lands where nothing is. -/
theorem prod_row {os xs ys : List Int} {i : Nat} {cv : Int} (hx : i < xs.length) (hi : i + ys.length < os.length) (hz : os[i + ys.length] = 0)
    (hv : val os + radix (i + ys.length) * cv = val (xs.take i) * val ys + radix i * (xs[i] * val (ys.take ys.length))) :
    val (os.set (i + ys.length) cv) = val (xs.take (i + 1)) * val ys := by
  rw [val_set _ _ _ hi, val_take_succ xs i hx, hz]
  rw [List.take_length] at hv
  grind
/-- Which of two numbers is greater. -/
def cmpI (a b : Int) : Int := if a < b then -1 else if b < a then 1 else 0
theorem cmpI_lt {a b : Int} (h : a < b) : cmpI a b = -1 := by unfold cmpI; rw [if_pos h]
theorem cmpI_gt {a b : Int} (h : b < a) : cmpI a b = 1 := by unfold cmpI; rw [if_neg (by omega), if_pos h]
theorem cmpI_eq (a : Int) : cmpI a a = 0 := by unfold cmpI; rw [if_neg (by omega), if_neg (by omega)]
theorem cmpI_neg (a b : Int) : cmpI b a = - cmpI a b := by
  unfold cmpI
  by_cases h : a < b
  · rw [if_neg (by omega), if_pos h, if_pos h]; omega
  · by_cases h' : b < a
    · rw [if_pos h', if_neg h, if_pos h']
    · rw [if_neg h', if_neg h, if_neg h, if_neg h']; omega
theorem cmpI_zero {a b : Int} : cmpI a b = 0 ↔ a = b := by
  unfold cmpI
  by_cases h : a < b
  · rw [if_pos h]; omega
  · by_cases h' : b < a
    · rw [if_neg h, if_pos h']; omega
    · rw [if_neg h, if_neg h']; omega
theorem val_len_lt {l m : List Int} (h : Canon l) (k : Canon m) (e : l.length < m.length) : val l < val m := by
  have h1 := val_lt h.1
  have h2 := k.lower (by omega)
  have h3 := radix_mono (show l.length ≤ m.length - 1 by omega)
  omega
/-- Two lists of digits that are one from the place k on: the digits at the place before decide. -/
theorem val_digit_lt {l m : List Int} {k : Nat} (h : Dig l) (h' : Dig m) (hl : l.length = m.length) (hk : k < l.length) (e : l.drop (k + 1) = m.drop (k + 1)) (hlt : l[k] < m[k]'(by omega)) : val l < val m := by
  have e1 : val l = val (l.take k) + radix k * (l[k] + 1000000000 * val (l.drop (k + 1))) := by
    conv => lhs; rw [← List.take_append_drop k l, val_append, List.drop_eq_getElem_cons hk]
    rw [List.length_take, Nat.min_eq_left (by omega)]; rfl
  have e2 : val m = val (m.take k) + radix k * (m[k]'(by omega) + 1000000000 * val (m.drop (k + 1))) := by
    conv => lhs; rw [← List.take_append_drop k m, val_append, List.drop_eq_getElem_cons (by omega)]
    rw [List.length_take, Nat.min_eq_left (by omega)]; rfl
  have h1 := val_lt (h.take k)
  have h2 := val_nonneg (h'.take k)
  rw [List.length_take, Nat.min_eq_left (by omega)] at h1
  have hr := radix_pos k
  rw [e1, e2, e]
  have : radix k * (l[k] + 1) ≤ radix k * m[k]'(by omega) := Int.mul_le_mul_of_nonneg_left (by omega) (by omega)
  grind
/-- Not a digit. -/
def digB (d : Int) : Bool := decide (d < 0) || decide (1000000000 ≤ d)
/-- The error of a natural. -/
def natErr (l : List Int) : Int := if 40 < l.length then 5 else if l.any digB then 2 else if l.getLast? = some 0 then 3 else 0
theorem digB_dig {l : List Int} (h : l.any digB = false) : Dig l := fun d hd => by
  have := List.any_eq_false.1 h d hd
  unfold digB at this
  simp at this
  omega
theorem dig_digB {l : List Int} (h : Dig l) : l.any digB = false := List.any_eq_false.2 fun d hd => by
  have := h d hd
  unfold digB
  simp
  omega
theorem natErr_ok {l : List Int} (h : natErr l = 0) : Canon l ∧ l.length ≤ 40 := by
  unfold natErr at h
  by_cases h1 : 40 < l.length
  · rw [if_pos h1] at h; omega
  · rw [if_neg h1] at h
    by_cases h2 : l.any digB = true
    · rw [if_pos h2] at h; omega
    · rw [if_neg h2] at h
      by_cases h3 : l.getLast? = some 0
      · rw [if_pos h3] at h; omega
      · exact ⟨⟨digB_dig (by simpa using h2), h3⟩, by omega⟩
theorem natErr_canon {l : List Int} (h : Canon l) (hl : l.length ≤ 40) : natErr l = 0 := by
  unfold natErr
  rw [if_neg (by omega), if_neg (by rw [dig_digB h.1]; simp), if_neg h.2]
/-- The error of the first of two naturals that has one. -/
def err2 (l m : List Int) : Int := if natErr l = 0 then natErr m else natErr l
/-- The digit at a place; 0 behind the last one. -/
def dg (zs : List Int) (k : Nat) : Int := if h : k < zs.length then zs[k] else 0
theorem dg_in {zs : List Int} {k : Nat} (h : k < zs.length) : dg zs k = zs[k] := by unfold dg; rw [dif_pos h]
theorem dg_out {zs : List Int} {k : Nat} (h : zs.length ≤ k) : dg zs k = 0 := by unfold dg; rw [dif_neg (by omega)]
theorem Dig.dg {zs : List Int} (h : Dig zs) (k : Nat) : 0 ≤ dg zs k ∧ dg zs k < 1000000000 := by
  by_cases hk : k < zs.length
  · rw [dg_in hk]; exact h.at_ hk
  · rw [dg_out (by omega)]; omega

theorem prod_step' {os ys : List Int} {i k : Nat} {x cv P : Int} (hi : i + k < os.length)
    (hv : val os + radix (i + k) * cv = P + radix i * (x * val (ys.take k))) :
    val (os.set (i + k) ((os[i + k] + x * dg ys k + cv) % 1000000000)) + radix (i + (k + 1)) * ((os[i + k] + x * dg ys k + cv) / 1000000000) = P + radix i * (x * val (ys.take (k + 1))) := by
  have e0 : val (ys.take (k + 1)) = val (ys.take k) + radix k * dg ys k := val_take_add k
  rw [val_set _ _ _ hi, e0]
  have e1 : radix (i + (k + 1)) = 1000000000 * radix (i + k) := by rw [← Nat.add_assoc]; rfl
  have e2 : radix (i + k) = radix i * radix k := radix_add i k
  rw [e1]
  generalize os[i + k] = o at *
  have e : o + x * dg ys k + cv = 1000000000 * ((o + x * dg ys k + cv) / 1000000000) + (o + x * dg ys k + cv) % 1000000000 := by omega
  generalize (o + x * dg ys k + cv) / 1000000000 = q at *
  generalize (o + x * dg ys k + cv) % 1000000000 = r at *
  generalize dg ys k = y at *
  generalize val (ys.take k) = Y at *
  generalize val os = O at *
  generalize radix (i + k) = T at *
  grind
theorem mul_dig {x y o c : Int} (hx : 0 ≤ x ∧ x < 1000000000) (hy : 0 ≤ y ∧ y < 1000000000) (ho : 0 ≤ o ∧ o < 1000000000) (hc : 0 ≤ c ∧ c < 1000000000) :
    0 ≤ x * y ∧ x * y ≤ 999999998000000001 ∧ 0 ≤ o + x * y + c ∧ o + x * y + c < 1000000000000000000 := by
  have h0 : 0 ≤ x * y := Int.mul_nonneg hx.1 hy.1
  have h1 : x * y ≤ 999999999 * 999999999 := Int.mul_le_mul (by omega) (by omega) hy.1 (by omega)
  omega
end Go.Proofs.YtomgilkchlediaaGreatDoor
