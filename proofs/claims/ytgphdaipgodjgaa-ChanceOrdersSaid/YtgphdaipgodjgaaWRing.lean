/-
  The walk of the law ChanceRing.
-/
import Derived.Test.YtgphdaipgodjgaaWOrder
import Derived.Test.YtgphdaipgodjgaaNatOf
namespace Go.Proofs.Ytgphdaipgodjgaa
open Go.RowKit

theorem Compare_nat (v1 v2 : Value) (a b : Int) (w : World) (h1 : IsNat w v1 a) (h2 : IsNat w v2 b) (ha : a < radix 40) (hb : b < radix 40) : Calls Try.prog 38 #[v1, v2] w (Gives w (.int .i64 (cmpI a b))) := by
  obtain ⟨xs, k1, rfl, i1⟩ := h1
  obtain ⟨ys, k2, rfl, i2⟩ := h2
  have h := Compare_any v1 v2 xs ys w i1 i2
  have e : err2 xs ys = 0 := by unfold err2; rw [natErr_val k1 ha, natErr_val k2 hb]; rfl
  rw [if_pos e] at h
  exact h
theorem IsNat.len {w : World} {v : Value} {n : Int} (h : IsNat w v n) : ∃ A m c, v = .slice A m c ∧ (n = 0 → m = 0) ∧ (0 < n → 0 < m) := by
  obtain ⟨zs, hc, rfl, A, c, rfl, _⟩ := h
  refine ⟨A, _, c, rfl, fun e => ?_, fun e => ?_⟩
  · rcases Nat.eq_zero_or_pos zs.length with h | h
    · exact h
    · have := hc.lower h
      have := radix_pos (zs.length - 1)
      omega
  · rcases Nat.eq_zero_or_pos zs.length with h | h
    · have : zs = [] := List.eq_nil_of_length_eq_zero h
      subst this
      simp [val] at e
    · exact h
theorem IsNat.nil {w : World} : IsNat w (.slice none 0 0) 0 := ⟨[], canon_nil, by simp [val], IsInts.nil⟩
theorem isNat_one (w : World) : IsNat (w.alloc (.cells #[.int .i64 1] 3)) (.slice (some ⟨w.heap.size, 0, none⟩) 1 1) 1 := (isNatF_one w 1 (by omega) (by omega)).1
/-- The bounds of three naturals of at most nine places. -/
structure Three (a b c : Int) : Prop where
  a0 : 0 ≤ a
  b0 : 0 ≤ b
  a1 : a < radix 40
  b1 : b < radix 40
  c1 : c < radix 40
  ab : a + b < radix 40
  abc : (a + b) * c < radix 40
  ac : a * c < radix 40
  cb : c * b < radix 40
theorem three {a b c : Int} (a0 : 0 ≤ a) (b0 : 0 ≤ b) (c0 : 0 ≤ c) (a1 : a < radix 9) (b1 : b < radix 9) (c1 : c < radix 9) : Three a b c := by
  have h10 := radix_mono (show 9 ≤ 10 by omega)
  have h40 := radix_mono (show 10 ≤ 40 by omega)
  have h19 := radix_mono (show 19 ≤ 40 by omega)
  have e10 : radix 10 = 1000000000 * radix 9 := rfl
  have e19 : radix 19 = radix 10 * radix 9 := radix_add 10 9
  have p9 := radix_pos 9
  have hab : a + b < radix 10 := by omega
  have m : ∀ x y : Int, 0 ≤ x → 0 ≤ y → x < radix 10 → y < radix 10 → x < radix 9 ∨ y < radix 9 → x * y < radix 19 := fun x y x0 y0 x1 y1 hxy => by
    rcases hxy with h | h
    · have h1 : x * y ≤ radix 9 * y := Int.mul_le_mul_of_nonneg_right (by omega) y0
      have h2 : radix 9 * y < radix 9 * radix 10 := Int.mul_lt_mul_of_pos_left y1 p9
      have h3 : radix 10 * radix 9 = radix 9 * radix 10 := Int.mul_comm _ _
      omega
    · have h1 : x * y ≤ x * radix 9 := Int.mul_le_mul_of_nonneg_left (by omega) x0
      have h2 : x * radix 9 < radix 10 * radix 9 := Int.mul_lt_mul_of_pos_right x1 p9
      omega
  exact ⟨a0, b0, by omega, by omega, by omega, by omega, Int.lt_of_lt_of_le (m _ _ (by omega) c0 hab (by omega) (.inr c1)) h19, Int.lt_of_lt_of_le (m _ _ a0 c0 (by omega) (by omega) (.inr c1)) h19, Int.lt_of_lt_of_le (m _ _ c0 b0 (by omega) (by omega) (.inl c1)) h19⟩

theorem NatOf_nat (g : Nat) (w : World) (hs : Src w g) : Calls Try.prog 37 #[.pointer (some ⟨g, 0, none⟩), .int .i64 9] w (fun e w' => ∃ v n, e = .returned v ∧ IsNatF w' v n ∧ 0 ≤ n ∧ n < radix 9 ∧ Src w' g ∧ But g w w') :=
  (NatOf_any g 9 w hs (by omega) (by omega)).mono fun e w' ⟨v, zs, he, hi, hc, hl, hs', hb⟩ =>
    ⟨v, val zs, he, natF_ints hi hc, val_nonneg hc.1, Int.lt_of_lt_of_le (val_lt hc.1) (radix_mono (by omega)), hs', hb⟩
theorem IsNatF.src {g : Nat} {w w' : World} {v : Value} {a : Int} (h : IsNatF w v a) (k : But g w w') (hs : Src w g) : IsNatF w' v a := by
  obtain ⟨x, _, _, hx⟩ := hs
  exact h.butG k hx (by decide)
/-- What region 12 asks. -/
def Ring3 (a b n m : Int) (p q : Bool) : Prop := n = cmpI a b ∧ m = cmpI (a + b) a ∧ p = decide (a = b) ∧ q = decide (b = 0)
theorem sameV (v1 v2 : Value) (a b : Int) (w : World) (h1 : IsNat w v1 a) (h2 : IsNat w v2 b) (p : Bool) (hp : p = decide (a = b)) : Calls Try.prog 20 #[v1, v2] w (Says w (.bool p)) := by
  rw [hp]
  exact SameNat_nat v1 v2 a b w h1 h2
theorem ring_cases {a b : Int} (b0 : 0 ≤ b) : (a < b ∧ 0 < b) ∨ (a = b ∧ 0 < b) ∨ (a = b ∧ b = 0) ∨ (b < a ∧ 0 < b) ∨ (b < a ∧ b = 0) ∨ (a < b ∧ b = 0) := by omega
theorem ring_m {a b : Int} (h : 0 < b) : cmpI (a + b) a = 1 := cmpI_gt (by omega)
theorem ring_m0 {a b : Int} (h : b = 0) : cmpI (a + b) a = 0 := by subst h; simp [cmpI_eq]

theorem ring_five {a b : Int} {lb : Nat} (b0 : 0 ≤ b) (h1 : b = 0 → lb = 0) (h2 : 0 < b → 0 < lb) :
    (cmpI a b = -1 ∧ cmpI (a + b) a = 1 ∧ decide (a = b) = false ∧ 0 < lb) ∨ (cmpI a b = 0 ∧ cmpI (a + b) a = 1 ∧ decide (a = b) = true ∧ 0 < lb) ∨ (cmpI a b = 0 ∧ cmpI (a + b) a = 0 ∧ decide (a = b) = true ∧ lb = 0) ∨
    (cmpI a b = 1 ∧ cmpI (a + b) a = 1 ∧ decide (a = b) = false ∧ 0 < lb) ∨ (cmpI a b = 1 ∧ cmpI (a + b) a = 0 ∧ decide (a = b) = false ∧ lb = 0) ∨ (a < b ∧ b = 0) := by
  rcases ring_cases (a := a) b0 with ⟨r1, r2⟩ | ⟨r1, r2⟩ | ⟨r1, r2⟩ | ⟨r1, r2⟩ | ⟨r1, r2⟩ | ⟨r1, r2⟩
  · exact .inl ⟨cmpI_lt r1, ring_m r2, decide_eq_false (by omega), h2 r2⟩
  · exact .inr (.inl ⟨by rw [r1, cmpI_eq], ring_m r2, decide_eq_true r1, h2 r2⟩)
  · exact .inr (.inr (.inl ⟨by rw [r1, cmpI_eq], ring_m0 r2, decide_eq_true r1, h1 r2⟩))
  · exact .inr (.inr (.inr (.inl ⟨cmpI_gt r1, ring_m r2, decide_eq_false (by omega), h2 r2⟩)))
  · exact .inr (.inr (.inr (.inr (.inl ⟨cmpI_gt r1, ring_m0 r2, decide_eq_false (by omega), h1 r2⟩))))
  · exact .inr (.inr (.inr (.inr (.inr ⟨r1, r2⟩))))

set_option maxRecDepth 100000 in
set_option maxHeartbeats 8000000 in
theorem walkChanceRing (v : Value) (ns : List Int) (w : World) (h : IsInts w v ns) (_hz : ∀ z ∈ ns, (Lit.int .i64 z).wf = true) :
    Calls Try.prog 7 #[v] w (Gives w (.bool true)) := by
  clear _hz
  go_enter Try.func7, Try.ntmps7
  go_wp2_with fail
  refine (NewSource_any _ _ _ h).mono ?_
  rintro e w1 ⟨g, rfl, gg, hs1, hg1⟩
  go_wp2_with fail
  refine (NatOf_nat g _ hs1).mono ?_
  rintro e w2 ⟨vA, a, rfl, kA, a0, a1, hs2, hb2⟩
  go_wp2_with fail
  refine (NatOf_nat g _ hs2).mono ?_
  rintro e w3 ⟨vB, b, rfl, kB, b0, b1, hs3, hb3⟩
  go_wp2_with fail
  refine (NatOf_nat g _ hs3).mono ?_
  rintro e w4 ⟨vC, c, rfl, kC, c0, c1, hs4, hb4⟩
  have iA := ((kA.src hb3 hs2).src hb4 hs3).1
  have iB := (kB.src hb4 hs3).1
  have iC := kC.1
  have gW : Grow w w4 := ((hb2.trans hb3).trans hb4).grow hg1 gg
  have T := three a0 b0 c0 a1 b1 c1
  obtain ⟨A, la, ca, rfl⟩ := iA.open_
  obtain ⟨B, lb, cb, rfl, lb0, lb1⟩ := iB.len
  obtain ⟨C, lc, cc, rfl⟩ := iC.open_
  have KA := hid fun W (hg : Grow w4 W) => iA.grow hg
  have KB := hid fun W (hg : Grow w4 W) => iB.grow hg
  have KC := hid fun W (hg : Grow w4 W) => iC.grow hg
  have GW := hid gW
  have HL := hid (And.intro lb0 lb1)
  have g0 : Grow w4 w4 := Grow.refl _
  clear kA kB kC hs1 hs2 hs3 hs4 hb2 hb3 hb4 hg1 gg iA iB iC gW lb0 lb1 a0 a1 b0 b1 c0 c1 h
  go_wp2_with fail
  refine (Sum_nat _ _ a b _ (KA.out _ g0) (KB.out _ g0) T.a1 T.b1 T.ab).mono ?_
  rintro e w5 ⟨v1, rfl, k1, g1⟩
  obtain ⟨X1, l1, c1, rfl⟩ := k1.open_
  have K1 := hid fun W (hg : Grow w5 W) => k1.grow hg
  clear k1
  go_wp2_with fail
  refine (Sum_nat _ _ b a _ (KB.out _ g1) (KA.out _ g1) T.b1 T.a1 (by rw [Int.add_comm]; exact T.ab)).mono ?_
  rintro e w6 ⟨v2, rfl, k2, g2⟩
  obtain ⟨X2, l2, c2, rfl⟩ := k2.open_
  have K2 := hid fun W (hg : Grow w6 W) => k2.grow hg
  have h6 := g1.trans g2
  clear k2
  go_wp2_with fail
  refine (Product_nat _ _ (a + b) c _ (K1.out _ g2) (KC.out _ h6) T.ab T.c1 T.abc).mono ?_
  rintro e w7 ⟨v3, rfl, k3, g3⟩
  obtain ⟨X3, l3, c3, rfl⟩ := k3.open_
  have K3 := hid fun W (hg : Grow w7 W) => k3.grow hg
  have h7 := h6.trans g3
  clear k3
  go_wp2_with fail
  refine (Product_nat _ _ a c _ (KA.out _ h7) (KC.out _ h7) T.a1 T.c1 T.ac).mono ?_
  rintro e w8 ⟨v4, rfl, k4, g4⟩
  obtain ⟨X4, l4, c4, rfl⟩ := k4.open_
  have K4 := hid fun W (hg : Grow w8 W) => k4.grow hg
  have h8 := h7.trans g4
  clear k4
  go_wp2_with fail
  refine (Product_nat _ _ c b _ (KC.out _ h8) (KB.out _ h8) T.c1 T.b1 T.cb).mono ?_
  rintro e w9 ⟨v5, rfl, k5, g5⟩
  obtain ⟨X5, l5, c5, rfl⟩ := k5.open_
  have h9 := h8.trans g5
  have K5 := hid k5
  clear k5
  go_wp2_with fail
  have es : a * c + c * b = (a + b) * c := by grind
  have HS := Sum_nat _ _ (a * c) (c * b) _ (K4.out _ g5) K5.out T.ac T.cb (by rw [es]; exact T.abc)
  rw [es] at HS
  refine HS.mono ?_
  rintro e w10 ⟨v6, rfl, k6, g6⟩
  obtain ⟨X6, l6, c6, rfl⟩ := k6.open_
  have h10 := h9.trans g6
  have HS1 := hid (sameV _ _ (a + b) (b + a) w10 (K1.out _ ((((g2.trans g3).trans g4).trans g5).trans g6)) (K2.out _ (((g3.trans g4).trans g5).trans g6)) true (by simp [Int.add_comm]))
  have HS2 := hid fun W (hg : Grow w10 W) => sameV _ _ ((a + b) * c) ((a + b) * c) W (K3.out _ (((g4.trans g5).trans g6).trans hg)) (k6.grow hg) true (by simp)
  have K1' := hid fun W (hg : Grow w10 W) => K1.out W (((((g2.trans g3).trans g4).trans g5).trans g6).trans hg)
  clear k6 HS es K1 K2 K3 K4 K5 g1 g2 g3 g4 g5 g6 h6 h7 h8 h9
  go_wp2_with fail
  refine HS1.out.mono ?_
  rintro e w11 ⟨rfl, n11, rfl⟩
  have g11 : Grow w10 (w10.drewN n11) := (Grow.refl _).drewN n11
  go_wp2_with fail
  refine (HS2.out _ g11).mono ?_
  rintro e w12 ⟨rfl, n12, rfl⟩
  have g12 : Grow w10 ((w10.drewN n11).drewN n12) := g11.drewN n12
  clear g11 HS1 HS2
  generalize (w10.drewN n11).drewN n12 = w12 at *
  go_wp2_with fail
  refine (Compare_nat _ _ a b _ (KA.out _ (h10.trans g12)) (KB.out _ (h10.trans g12)) T.a1 T.b1).mono ?_
  rintro e w13 ⟨rfl, g13⟩
  have t13 := h10.trans (g12.trans g13)
  go_wp2_with fail
  refine (Compare_nat _ _ (a + b) a _ (K1'.out _ (g12.trans g13)) (KA.out _ t13) T.ab T.a1).mono ?_
  rintro e w14 ⟨rfl, g14⟩
  have t14 := t13.trans g14
  have HC := hid (Compare_nat _ _ b a _ (KB.out _ t14) (KA.out _ t14) T.b1 T.a1)
  have HE := hid fun W (hg : Grow w14 W) => SameNat_nat _ _ a b W (KA.out _ (t14.trans hg)) (KB.out _ (t14.trans hg))
  have OO := ring_five (a := a) T.b0 HL.out.1 HL.out.2
  rw [cmpI_neg a b] at HC
  have HO := hid (Product_nat · · a 1 · · · T.a1 (lt_radix40 (by omega)) (by rw [Int.mul_one]; exact T.a1))
  have HP := hid (Product_nat · · a 0 · · · T.a1 (lt_radix40 (by omega)) (by rw [Int.mul_zero]; exact lt_radix40 (by omega)))
  rw [Int.mul_one] at HO
  rw [Int.mul_zero] at HP
  have HSA := hid fun v W (h1 : IsNat W v a) (h2 : IsNat W (.slice A la ca) a) => sameV v _ a a W h1 h2 true (by simp)
  have TA := hid T.a0
  clear HL T K1'
  generalize cmpI a b = n at *
  generalize cmpI (a + b) a = m at *
  generalize decide (a = b) = p at *
  have GT := hid (GW.out.trans t14)
  clear t13 g14 g13 g12 h10 g0
  rcases OO with ⟨rfl, rfl, rfl, hl⟩ | ⟨rfl, rfl, rfl, hl⟩ | ⟨rfl, rfl, rfl, rfl⟩ | ⟨rfl, rfl, rfl, hl⟩ | ⟨rfl, rfl, rfl, rfl⟩ | ⟨r1, r2⟩
  case inr.inr.inr.inr.inr => exact absurd r1 (by have := TA.out; omega)
  case' inl => have hl' : ((lb : Int) == 0) = false := by simp; omega
  case' inr.inl => have hl' : ((lb : Int) == 0) = false := by simp; omega
  case' inr.inr.inr.inl => have hl' : ((lb : Int) == 0) = false := by simp; omega
  all_goals
    go_wp2_with fail
    refine HC.out.mono ?_
    rintro e w15 ⟨rfl, g15⟩
    go_wp2_with fail
    refine (HE.out _ g15).mono ?_
    rintro e w16 ⟨rfl, n16, rfl⟩
    have t16 := g15.drewN n16
    generalize w15.drewN n16 = w16 at *
    go_wp2_with fail
    refine (number_any _ [1] _ (isInts_one _ _)).mono ?_
    rintro e w17 ⟨rfl, rfl⟩
    have kN := isNat_one w16
    have t17 := t16.alloc (.cells #[.int .i64 1] 3)
    generalize w16.alloc (.cells #[.int .i64 1] 3) = w17 at *
    go_wp2_with fail
    refine (HO.out _ _ _ (KA.out _ (t14.trans t17)) kN).mono ?_
    rintro e w18 ⟨vO, rfl, kO, g18⟩
    obtain ⟨X7, l7, c7, rfl⟩ := kO.open_
    have t18 := t17.trans g18
    clear kN
    go_wp2_with fail
    refine (HP.out _ _ _ (KA.out _ (t14.trans t18)) IsNat.nil).mono ?_
    rintro e w19 ⟨vP, rfl, kP, g19⟩
    obtain ⟨X8, l8, c8, rfl, l80, _⟩ := kP.len
    obtain rfl := l80 rfl
    have t19 := t18.trans g19
    have HSO := hid (HSA.out _ w19 (kO.grow g19) (KA.out _ (t14.trans t19)))
    clear kO kP l80
    go_wp2_with fail
    refine HSO.out.mono ?_
    rintro e w20 ⟨rfl, n20, rfl⟩
    have t20 := t19.drewN n20
    generalize w19.drewN n20 = w20 at *
    go_wp2_with fail
    refine (awake_any _).mono ?_
    rintro e w21 ⟨rfl, g21⟩
    go_wp2
    go_ret
    exact ⟨rfl, (GT.out.trans t20).trans g21⟩
end Go.Proofs.Ytgphdaipgodjgaa
