/-
  The texts of naturals: decimal digits, nine to a digit of the natural; they are read as they are written. Plain laws.
-/
import Derived.Test.YtomgilkchlediaaGreatDoorDig
import Derived.Lib.ItoaNum
import Derived.Lib.Atoi
import Derived.Lib.Repeat
namespace Go.Proofs.YtomgilkchlediaaGreatDoor
open Go.Lib (decDigits nDigits repeatL decFrom decNat digitVal itoa)

def AllD (l : List UInt8) : Prop := ∀ b ∈ l, 48 ≤ b.toNat ∧ b.toNat ≤ 57
theorem AllD.append {a b : List UInt8} (h : AllD a) (k : AllD b) : AllD (a ++ b) := fun x hx => by
  rcases List.mem_append.1 hx with hx | hx
  · exact h x hx
  · exact k x hx
theorem AllD.left {a b : List UInt8} (h : AllD (a ++ b)) : AllD a := fun x hx => h x (List.mem_append_left _ hx)
theorem AllD.right {a b : List UInt8} (h : AllD (a ++ b)) : AllD b := fun x hx => h x (List.mem_append_right _ hx)
theorem AllD.reverse {a : List UInt8} (h : AllD a) : AllD a.reverse := fun x hx => h x (List.mem_reverse.1 hx)
/-- The number that decimal digits mean, the least first. -/
def w10 : List UInt8 → Nat
  | [] => 0
  | b :: l => (b.toNat - 48) + 10 * w10 l
theorem w10_append (a b : List UInt8) : w10 (a ++ b) = w10 a + 10 ^ a.length * w10 b := by
  induction a with
  | nil => simp [w10]
  | cons x a ih => simp only [List.cons_append, w10, ih, List.length_cons, Nat.pow_succ, Nat.mul_add]; rw [Nat.mul_comm (10 ^ a.length) 10, Nat.mul_assoc]; omega
theorem w10_lt {l : List UInt8} (h : AllD l) : w10 l < 10 ^ l.length := by
  induction l with
  | nil => simp [w10]
  | cons x l ih =>
    have h1 := h x (List.mem_cons_self ..)
    have h2 := ih fun y hy => h y (List.mem_cons_of_mem _ hy)
    simp only [w10, List.length_cons, Nat.pow_succ]
    omega
theorem w10_inj : ∀ {a b : List UInt8}, AllD a → AllD b → a.length = b.length → w10 a = w10 b → a = b
  | [], [], _, _, _, _ => rfl
  | x :: a, y :: b, ha, hb, hl, he => by
    have hx := ha x (List.mem_cons_self ..)
    have hy := hb y (List.mem_cons_self ..)
    simp only [w10] at he
    have e : x = y := by
      apply UInt8.toNat_inj.1
      omega
    subst e
    rw [w10_inj (a := a) (b := b) (fun z hz => ha z (List.mem_cons_of_mem _ hz)) (fun z hz => hb z (List.mem_cons_of_mem _ hz)) (by simpa using hl) (by omega)]
  | [], _ :: _, _, _, hl, _ => by simp at hl
  | _ :: _, [], _, _, hl, _ => by simp at hl
/-- The number that a text means. -/
def vt (l : List UInt8) : Nat := w10 l.reverse
theorem vt_lt {l : List UInt8} (h : AllD l) : vt l < 10 ^ l.length := by
  have := w10_lt h.reverse
  simpa [vt] using this
theorem vt_inj {a b : List UInt8} (ha : AllD a) (hb : AllD b) (hl : a.length = b.length) (he : vt a = vt b) : a = b :=
  List.reverse_inj.1 (w10_inj ha.reverse hb.reverse (by simpa using hl) he)
theorem vt_append (a b : List UInt8) : vt (a ++ b) = vt a * 10 ^ b.length + vt b := by
  unfold vt
  rw [List.reverse_append, w10_append, List.length_reverse, Nat.mul_comm]
  omega
theorem dec_vt : ∀ (l : List UInt8) (acc : Nat), AllD l → decFrom acc l = some (acc * 10 ^ l.length + vt l)
  | [], acc, _ => by simp [decFrom, vt, w10]
  | b :: l, acc, h => by
    have hb := h b (List.mem_cons_self ..)
    have e : digitVal b = some (b.toNat - 48) := by unfold digitVal; rw [if_pos hb]
    rw [decFrom, e]
    show decFrom (acc * 10 + (b.toNat - 48)) l = _
    rw [dec_vt l _ fun x hx => h x (List.mem_cons_of_mem _ hx)]
    rw [show b :: l = [b] ++ l from rfl, vt_append]
    simp only [List.length_append, List.length_cons, List.length_nil, vt, w10, List.reverse_cons, List.reverse_nil, List.nil_append]
    rw [Nat.pow_add, Nat.add_mul, Nat.mul_assoc]
    simp
    omega
theorem decNat_vt {l : List UInt8} (h : AllD l) (hl : l ≠ []) : decNat l = some (vt l) := by
  unfold decNat
  rw [if_neg (by simpa using hl), dec_vt l 0 h]
  simp
/-- The digits of a number. -/
theorem dec_all (u : Nat) : AllD (decDigits u) ∧ vt (decDigits u) = u ∧ (decDigits u).length = nDigits u := by
  refine ⟨?_, ?_, Go.Lib.decDigits_length u⟩
  · induction u using Nat.strongRecOn with
    | _ u ih =>
      rw [decDigits]
      split
      · rename_i h
        intro b hb
        rw [List.mem_singleton] at hb
        subst hb
        simp
        omega
      · rename_i h
        refine (ih (u / 10) (by omega)).append fun b hb => ?_
        rw [List.mem_singleton] at hb
        subst hb
        simp
        omega
  · induction u using Nat.strongRecOn with
    | _ u ih =>
      rw [decDigits]
      split
      · rename_i h
        simp [vt, w10]
        omega
      · rename_i h
        rw [vt_append, ih (u / 10) (by omega)]
        simp [vt, w10]
        omega
theorem pow_nDigits : ∀ (u : Nat), 0 < u → 10 ^ (nDigits u - 1) ≤ u := by
  intro u
  induction u using Nat.strongRecOn with
  | _ u ih =>
    intro hu
    by_cases h : u < 10
    · rw [Go.Lib.nDigits_small h]; simp; omega
    · rw [Go.Lib.nDigits_big h]
      have h1 := ih (u / 10) (by omega) (by omega)
      have h2 := Go.Lib.nDigits_pos (u / 10)
      rw [show nDigits (u / 10) + 1 - 1 = (nDigits (u / 10) - 1) + 1 by omega, Nat.pow_succ]
      omega
theorem nDigits_le {u : Nat} (h : u < 1000000000) : nDigits u ≤ 9 := by
  by_cases h0 : u = 0
  · subst h0; rw [Go.Lib.nDigits_small (by omega)]; omega
  · have h1 := pow_nDigits u (by omega)
    rcases Nat.lt_or_ge 9 (nDigits u) with h2 | h2
    · have := Nat.pow_le_pow_right (show 0 < 10 by decide) (show 9 ≤ nDigits u - 1 by omega)
      have e : (10 : Nat) ^ 9 = 1000000000 := by decide
      omega
    · exact h2
/-- A text that begins with no zero is that of its number. -/
theorem dec_of_vt {c : UInt8} {l : List UInt8} (h : AllD (c :: l)) (hc : c.toNat ≠ 48) : decDigits (vt (c :: l)) = c :: l := by
  obtain ⟨h1, h2, h3⟩ := dec_all (vt (c :: l))
  refine vt_inj h1 h ?_ h2
  rw [h3]
  have hu := vt_lt h
  rw [List.length_cons] at hu ⊢
  refine Go.Lib.nDigits_unique l.length _ ?_ hu
  rw [show c :: l = [c] ++ l from rfl, vt_append]
  have hb := h c (List.mem_cons_self ..)
  have : 1 * 10 ^ l.length ≤ vt [c] * 10 ^ l.length := Nat.mul_le_mul_right _ (by simp [vt, w10]; omega)
  omega
theorem itoa_nat (u : Nat) : itoa (u : Int) = decDigits u := by
  unfold itoa
  rw [if_neg (by omega)]
  rfl
/-- Nine digits. -/
def padL (n : Int) : List UInt8 := repeatL [48] (9 - (itoa n).length) ++ itoa n
theorem zeros_all (k : Nat) : AllD (repeatL [48] k) ∧ vt (repeatL [48] k) = 0 ∧ (repeatL [48] k).length = k := by
  induction k with
  | zero => exact ⟨fun b hb => by simp [repeatL] at hb, rfl, rfl⟩
  | succ k ih =>
    refine ⟨?_, ?_, ?_⟩
    · rw [repeatL]
      refine AllD.append (fun b hb => ?_) ih.1
      rw [List.mem_singleton] at hb
      subst hb
      decide
    · rw [repeatL, vt_append, ih.2.1, show vt [48] = 0 from by simp [vt, w10]]
      simp
    · rw [repeatL, List.length_append, ih.2.2]
      simp
      omega
theorem pad_all {u : Nat} (h : u < 1000000000) : AllD (padL (u : Int)) ∧ vt (padL (u : Int)) = u ∧ (padL (u : Int)).length = 9 := by
  obtain ⟨h1, h2, h3⟩ := dec_all u
  have h9 := nDigits_le h
  unfold padL
  rw [itoa_nat]
  obtain ⟨k1, k2, k3⟩ := zeros_all (9 - (decDigits u).length)
  refine ⟨k1.append h1, by rw [vt_append, k2, h2]; omega, by rw [List.length_append, k3]; omega⟩
theorem pad_of_vt {l : List UInt8} (h : AllD l) (hl : l.length = 9) : padL (vt l : Int) = l := by
  have hu := vt_lt h
  rw [hl] at hu
  obtain ⟨h1, h2, h3⟩ := pad_all (u := vt l) (by have e : (10 : Nat) ^ 9 = 1000000000 := by decide
                                                 omega)
  exact vt_inj h1 h (by omega) h2
/-- The text of the digits of a natural, the least first. -/
def txtL : List Int → List UInt8
  | [] => []
  | [d] => itoa d
  | d :: e :: l => txtL (e :: l) ++ padL d
def textL (zs : List Int) : List UInt8 := if zs = [] then [48] else txtL zs
/-- The digits that a text means, nine decimal ones to each. -/
def chs (l : List UInt8) : List Int :=
  if h : l.length = 0 then [] else (vt (l.drop (l.length - 9)) : Int) :: chs (l.take (l.length - 9))
termination_by l.length
decreasing_by rw [List.length_take]; omega
theorem chs_nil : chs [] = [] := by rw [chs]; simp
theorem chs_cons {l : List UInt8} (h : 0 < l.length) : chs l = (vt (l.drop (l.length - 9)) : Int) :: chs (l.take (l.length - 9)) := by
  conv => lhs; rw [chs]
  rw [dif_neg (by omega)]
theorem chs_short {l : List UInt8} (h : 0 < l.length) (h9 : l.length ≤ 9) : chs l = [(vt l : Int)] := by
  rw [chs_cons h, show l.length - 9 = 0 by omega]
  simp [chs_nil]
theorem chs_snoc {a b : List UInt8} (hb : b.length = 9) : chs (a ++ b) = (vt b : Int) :: chs a := by
  rw [chs_cons (by rw [List.length_append]; omega), List.length_append, hb, Nat.add_sub_cancel, List.drop_left, List.take_left]
theorem chs_len : ∀ (n : Nat) (l : List UInt8), l.length ≤ 9 * n → (chs l).length ≤ n
  | 0, l, h => by
    have : l = [] := List.eq_nil_of_length_eq_zero (by omega)
    subst this
    rw [chs_nil]; simp
  | n + 1, l, h => by
    by_cases h0 : 0 < l.length
    · rw [chs_cons h0, List.length_cons]
      have := chs_len n (l.take (l.length - 9)) (by rw [List.length_take]; omega)
      omega
    · have : l = [] := List.eq_nil_of_length_eq_zero (by omega)
      subst this
      rw [chs_nil]; simp
theorem chs_dig : ∀ (n : Nat) (l : List UInt8), l.length ≤ n → AllD l → Dig (chs l)
  | 0, l, h, _ => by
    have : l = [] := List.eq_nil_of_length_eq_zero (by omega)
    subst this
    rw [chs_nil]; exact Dig.nil
  | n + 1, l, h, hd => by
    by_cases h0 : 0 < l.length
    · rw [chs_cons h0]
      intro d hdm
      rcases List.mem_cons.1 hdm with rfl | hdm
      · have h1 : AllD (l.drop (l.length - 9)) := fun b hb => hd b (List.mem_of_mem_drop hb)
        have h2 := vt_lt h1
        have h3 : (l.drop (l.length - 9)).length ≤ 9 := by rw [List.length_drop]; omega
        have h4 := Nat.pow_le_pow_right (show 0 < 10 by decide) h3
        have e : (10 : Nat) ^ 9 = 1000000000 := by decide
        omega
      · exact chs_dig n (l.take (l.length - 9)) (by rw [List.length_take]; omega) (fun b hb => hd b (List.mem_of_mem_take hb)) d hdm
    · have : l = [] := List.eq_nil_of_length_eq_zero (by omega)
      subst this
      rw [chs_nil]; exact Dig.nil
/-- What begins with no zero is written as it was read, and no needless digit is there. -/
theorem txt_chs : ∀ (n : Nat) (c : UInt8) (l : List UInt8), l.length ≤ n → AllD (c :: l) → c.toNat ≠ 48 → txtL (chs (c :: l)) = c :: l ∧ (chs (c :: l)).getLast? ≠ some 0 ∧ chs (c :: l) ≠ []
  | n, c, l, hn, h, hc => by
    by_cases h9 : l.length + 1 ≤ 9
    · rw [chs_short (by simp) (by simpa using h9)]
      have e : decDigits (vt (c :: l)) = c :: l := dec_of_vt h hc
      refine ⟨by rw [txtL, itoa_nat, e], ?_, by simp⟩
      intro h0
      simp at h0
      have hz : vt (c :: l) = 0 := by exact_mod_cast h0
      rw [hz, Go.Lib.decDigits_one (by decide)] at e
      injection e with e _
      subst e
      exact hc (by decide)
    · cases n with
      | zero => omega
      | succ n =>
        have hlen : (c :: l).length = l.length + 1 := rfl
        obtain ⟨t, ht⟩ : ∃ t, (c :: l).take ((c :: l).length - 9) = c :: t := by
          rw [hlen, show l.length + 1 - 9 = (l.length - 9) + 1 by omega]
          exact ⟨l.take (l.length - 9), rfl⟩
        have htl : t.length + 1 = l.length + 1 - 9 := by
          have := congrArg List.length ht
          rw [List.length_take, hlen, List.length_cons] at this
          omega
        have hs : c :: l = (c :: t) ++ (c :: l).drop ((c :: l).length - 9) := by rw [← ht, List.take_append_drop]
        have hd9 : ((c :: l).drop ((c :: l).length - 9)).length = 9 := by rw [List.length_drop, hlen]; omega
        generalize (c :: l).drop ((c :: l).length - 9) = d at hs hd9
        rw [hs] at h ⊢
        have ih := txt_chs n c t (by omega) h.left hc
        rw [chs_snoc hd9]
        have hne := ih.2.2
        cases hx : chs (c :: t) with
        | nil => exact absurd hx hne
        | cons e m =>
          rw [hx] at ih
          refine ⟨by rw [txtL, ih.1, pad_of_vt h.right hd9], ?_, by simp⟩
          rw [List.getLast?_cons_cons]
          exact ih.2.1
theorem canon_chs {c : UInt8} {l : List UInt8} (h : AllD (c :: l)) (hc : c.toNat ≠ 48) : Canon (chs (c :: l)) ∧ textL (chs (c :: l)) = c :: l := by
  obtain ⟨h1, h2, h3⟩ := txt_chs l.length c l (Nat.le_refl _) h hc
  exact ⟨⟨chs_dig _ _ (Nat.le_refl _) h, h2⟩, by unfold textL; rw [if_neg h3, h1]⟩
/-- What was written is read again. -/
theorem chs_txt : ∀ {zs : List Int}, zs ≠ [] → Canon zs → chs (txtL zs) = zs ∧ AllD (txtL zs) ∧ (∃ c l, txtL zs = c :: l ∧ c.toNat ≠ 48) ∧ (txtL zs).length ≤ 9 * zs.length
  | [], h, _ => absurd rfl h
  | [d], _, hc => by
    have hd := hc.1 d (List.mem_cons_self ..)
    obtain ⟨u, rfl⟩ := Int.eq_ofNat_of_zero_le hd.1
    have hu : u ≠ 0 := fun e => hc.2 (by subst e; rfl)
    have hlt : u < 1000000000 := by omega
    obtain ⟨h1, h2, h3⟩ := dec_all u
    have h9 := nDigits_le hlt
    have h0 := Go.Lib.nDigits_pos u
    rw [txtL, itoa_nat]
    refine ⟨by rw [chs_short (by omega) (by omega), h2], h1, ?_, by simp; omega⟩
    cases hx : decDigits u with
    | nil => rw [hx] at h3; simp at h3; omega
    | cons c l =>
      refine ⟨c, l, rfl, fun e => ?_⟩
      rw [hx] at h1 h2 h3
      have hl : AllD l := fun b hb => h1 b (List.mem_cons_of_mem _ hb)
      have h4 := vt_lt hl
      rw [show c :: l = [c] ++ l from rfl, vt_append] at h2
      have h5 : vt [c] = 0 := by simp [vt, w10, e]
      rw [h5] at h2
      have h6 := pow_nDigits u (by omega)
      rw [← h3] at h6
      simp at h6
      omega
  | d :: e :: l, _, hc => by
    have hd := hc.1 d (List.mem_cons_self ..)
    obtain ⟨u, rfl⟩ := Int.eq_ofNat_of_zero_le hd.1
    have ih := chs_txt (zs := e :: l) (by simp) hc.tail
    obtain ⟨p1, p2, p3⟩ := pad_all (u := u) (by omega)
    rw [txtL]
    refine ⟨by rw [chs_snoc p3, ih.1, p2], ih.2.1.append p1, ?_, ?_⟩
    · obtain ⟨c, m, e1, e2⟩ := ih.2.2.1
      exact ⟨c, m ++ padL (u : Int), by rw [e1]; rfl, e2⟩
    · have h4 := ih.2.2.2
      rw [List.length_append, p3, List.length_cons (a := (u : Int))]
      omega
/-- What the reference writes of a number: at least so many digits. -/
def dgs (n least : Nat) : List UInt8 := if _h : n = 0 ∧ least = 0 then [] else dgs (n / 10) (least - 1) ++ [UInt8.ofNat (48 + n % 10)]
termination_by n + least
decreasing_by
  by_cases h0 : n = 0
  · subst h0; omega
  · have := Nat.div_lt_self (show 0 < n by omega) (show 1 < 10 by decide)
    omega
theorem dgs_zero : dgs 0 0 = [] := by rw [dgs]; simp
theorem dgs_step {n least : Nat} (h : 0 < n ∨ 0 < least) : dgs n least = dgs (n / 10) (least - 1) ++ [UInt8.ofNat (48 + n % 10)] := by
  conv => lhs; rw [dgs]
  rw [dif_neg (by omega)]
theorem dgs_all : ∀ (k n least : Nat), n + least ≤ k → AllD (dgs n least) ∧ vt (dgs n least) = n ∧ (dgs n least).length = max least (if n = 0 then 0 else nDigits n)
  | 0, n, least, h => by
    obtain rfl : n = 0 := by omega
    obtain rfl : least = 0 := by omega
    rw [dgs_zero]
    exact ⟨fun b hb => by simp at hb, rfl, rfl⟩
  | k + 1, n, least, h => by
    by_cases h0 : n = 0 ∧ least = 0
    · obtain ⟨rfl, rfl⟩ := h0
      rw [dgs_zero]
      exact ⟨fun b hb => by simp at hb, rfl, rfl⟩
    · rw [dgs_step (by omega)]
      have hlt : n / 10 + (least - 1) ≤ k := by
        by_cases hn : n = 0
        · subst hn; omega
        · have := Nat.div_lt_self (show 0 < n by omega) (show 1 < 10 by decide)
          omega
      obtain ⟨i1, i2, i3⟩ := dgs_all k (n / 10) (least - 1) hlt
      refine ⟨i1.append fun b hb => ?_, ?_, ?_⟩
      · rw [List.mem_singleton] at hb
        subst hb
        simp
        omega
      · rw [vt_append, i2]
        simp [vt, w10]
        omega
      · rw [List.length_append, i3]
        by_cases hn : n = 0
        · subst hn
          simp
          omega
        · by_cases h10 : n < 10
          · rw [if_neg hn, Go.Lib.nDigits_small h10, if_pos (by omega)]
            simp
            omega
          · rw [if_neg hn, Go.Lib.nDigits_big h10, if_neg (by omega)]
            simp
            omega
theorem dgs_one {n : Nat} : dgs n 1 = decDigits n := by
  obtain ⟨h1, h2, h3⟩ := dgs_all (n + 1) n 1 (Nat.le_refl _)
  obtain ⟨k1, k2, k3⟩ := dec_all n
  refine vt_inj h1 k1 ?_ (h2.trans k2.symm)
  rw [h3, k3]
  by_cases hn : n = 0
  · subst hn
    rw [if_pos rfl, Go.Lib.nDigits_small (by decide)]
    rfl
  · rw [if_neg hn]
    have := Go.Lib.nDigits_pos n
    omega
theorem dgs_nine {n : Nat} (h : n < 1000000000) : dgs n 9 = padL (n : Int) := by
  obtain ⟨h1, h2, h3⟩ := dgs_all (n + 9) n 9 (Nat.le_refl _)
  obtain ⟨k1, k2, k3⟩ := pad_all h
  refine vt_inj h1 k1 ?_ (h2.trans k2.symm)
  rw [h3, k3]
  have := nDigits_le h
  split <;> omega
/-- What a text is, as a natural: an error, or the digits. -/
def parseErr (l : List UInt8) : Int :=
  if l = [] ∨ (l.head? = some 48 ∧ 1 < l.length) ∨ l.any (fun b => decide (b.toNat < 48 ∨ 57 < b.toNat)) then 3 else if 360 < l.length then 5 else 0
def parseN (l : List UInt8) : Int := val (chs l)
theorem allD_of {l : List UInt8} (h : l.any (fun b => decide (b.toNat < 48 ∨ 57 < b.toNat)) = false) : AllD l := fun b hb => by
  have := List.any_eq_false.1 h b hb
  simp at this
  omega
theorem any_of {l : List UInt8} (h : AllD l) : l.any (fun b => decide (b.toNat < 48 ∨ 57 < b.toNat)) = false := by
  rw [List.any_eq_false]
  intro b hb
  have := h b hb
  simp
  omega
/-- A text that is one of a natural: what it is, and that it is written as it was read. -/
theorem parse_ok {l : List UInt8} (h : parseErr l = 0) : AllD l ∧ l.length ≤ 360 ∧ (l = [48] ∨ ∃ c m, l = c :: m ∧ c.toNat ≠ 48) := by
  unfold parseErr at h
  by_cases h1 : l = [] ∨ (l.head? = some 48 ∧ 1 < l.length) ∨ l.any (fun b => decide (b.toNat < 48 ∨ 57 < b.toNat))
  · rw [if_pos h1] at h; exact absurd h (by decide)
  · rw [if_neg h1] at h
    by_cases h2 : 360 < l.length
    · rw [if_pos h2] at h; exact absurd h (by decide)
    · have h3 : ¬ l = [] := fun e => h1 (.inl e)
      have h4 : ¬ (l.head? = some 48 ∧ 1 < l.length) := fun e => h1 (.inr (.inl e))
      have h5 : AllD l := allD_of (by
        cases hx : l.any (fun b => decide (b.toNat < 48 ∨ 57 < b.toNat)) with
        | false => rfl
        | true => exact absurd (.inr (.inr hx)) h1)
      refine ⟨h5, by omega, ?_⟩
      cases l with
      | nil => exact absurd rfl h3
      | cons c m =>
        by_cases hc : c = 48
        · left
          subst hc
          have : m = [] := by
            by_cases hm : m = []
            · exact hm
            · have := List.length_pos_iff.2 hm
              exact absurd ⟨rfl, by simp; omega⟩ h4
          rw [this]
        · right
          refine ⟨c, m, rfl, fun e => hc ?_⟩
          apply UInt8.toNat_inj.1
          exact e
theorem back_one {zs : List Int} (hc : Canon zs) (hl : zs.length ≤ 40) : parseErr (textL zs) = 0 ∧ parseN (textL zs) = val zs := by
  by_cases h0 : zs = []
  · subst h0
    have e : chs [48] = [0] := by
      rw [chs_short (by decide) (by decide)]
      simp [vt, w10]
    refine ⟨by decide, ?_⟩
    unfold parseN
    rw [show textL [] = [48] from rfl, e]
    simp [val]
  · obtain ⟨h1, h2, ⟨c, l, h3, h4⟩, h5⟩ := chs_txt h0 hc
    unfold textL
    rw [if_neg h0]
    refine ⟨?_, by unfold parseN; rw [h1]⟩
    unfold parseErr
    rw [if_neg, if_neg (by omega)]
    rintro (h | h | h)
    · rw [h3] at h; exact absurd h (by simp)
    · rw [h3] at h
      simp at h
      exact h4 (by rw [h.1]; decide)
    · rw [any_of h2] at h
      exact absurd h (by decide)
theorem back_two {l : List UInt8} (h : parseErr l = 0) : ∃ zs, Canon zs ∧ zs.length ≤ 40 ∧ val zs = parseN l ∧ textL zs = l := by
  obtain ⟨h1, h2, h3⟩ := parse_ok h
  rcases h3 with rfl | ⟨c, m, rfl, hc⟩
  · refine ⟨[], Canon.nil, by simp, ?_, rfl⟩
    unfold parseN
    rw [chs_short (by decide) (by decide)]
    simp [vt, w10, val]
  · obtain ⟨k1, k2⟩ := canon_chs h1 hc
    exact ⟨_, k1, chs_len 40 _ (by omega), rfl, k2⟩
end Go.Proofs.YtomgilkchlediaaGreatDoor
