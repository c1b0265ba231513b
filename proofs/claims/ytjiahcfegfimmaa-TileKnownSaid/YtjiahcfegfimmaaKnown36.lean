/-
  Walks of Little and SetOf.
-/
import Derived.Test.YtjiahcfegfimmaaKnown29
import Derived.Deep.RegionLaw
import Derived.Outline
namespace Go.Proofs.Ytjiahcfegfimmaa
open Go.RowKit

theorem risErr_snoc {many p k : Int} {l : List Int} (h : risErr many p l = 0) (hl : ∀ z ∈ l, z < k) (hp : p < k) (h0 : 0 ≤ k) (h1 : k < many) : risErr many p (l ++ [k]) = 0 := by
  induction l generalizing p with
  | nil =>
    show (if k < 0 ∨ many ≤ k then (2 : Int) else if k ≤ p then 11 else risErr many k []) = 0
    rw [if_neg (by omega), if_neg (by omega)]; rfl
  | cons x l ih =>
    obtain ⟨a, b, c⟩ := risErr_cons h
    show (if x < 0 ∨ many ≤ x then (2 : Int) else if x ≤ p then 11 else risErr many x (l ++ [k])) = 0
    rw [if_neg (by omega), if_neg (by omega)]
    exact ih c (fun z hz => hl z (by simp [hz])) (hl x (by simp))
/-- What is known of a small set that is being made. -/
structure LitNum (s : TSet) (m : Int) : Prop where
  pl : s.pl = 3
  su : ∀ z ∈ s.su, 3 ≤ z ∧ z ≤ 5
  su2 : s.su.length ≤ 2
  wi : 0 ≤ s.wi ∧ s.wi ≤ 4
  dr : 0 ≤ s.dr ∧ s.dr ≤ 3
  fl : 0 ≤ s.fl ∧ s.fl ≤ 1
  co : 2 ≤ s.co ∧ s.co ≤ 4
  me : s.me = m
  de : 0 ≤ s.de ∧ s.de ≤ 2
theorem LitNum.ok {s : TSet} {m : Int} (h : LitNum s m) (hm : 1 ≤ m ∧ m ≤ 2) (h1 : 1 ≤ s.su.length) (hr : risErr (plainI s) (-1) s.re = 0) (hf : ¬ plainI s * s.co + s.fl < 3 * (3 * m + 1) + 1 + s.de) : chkErr s = 0 := by
  have hs := sumI_bound (l := s.su) fun z hz => by have := h.su z hz; omega
  have hp : plainI s = s.wi + s.dr + sumI s.su := rfl
  have a := h.pl
  have b := h.me
  have c := h.wi
  have d := h.dr
  have e := h.fl
  have f := h.co
  have g := h.de
  have hR : rowsB s = false := by
    unfold rowsB
    simp
    omega
  unfold chkErr
  rw [if_neg (by omega), if_neg (by have := h.su2; omega), if_neg, hR, if_neg (by simp), if_neg (by omega), if_neg (by simpa using hr), if_neg]
  · rw [a, b]; omega
  · intro hb
    obtain ⟨z, hz, hb⟩ := List.any_eq_true.1 hb
    have := h.su z hz
    unfold sutB at hb
    simp at hb
    omega
theorem wpList_append_run {P : Program} {ops : Array Oper} {rest : List Oper} {o : Oper} {a : Act} {w : World} {Q : Exit → Act → World → Prop}
    (hg : o.guard = none) (s x : Operand) (t : TypeId) (hop : o.op = Op.call { callee := Callee.builtin Builtin.append, args := #[s, x], argTypes := #[t, t] })
    {u y v' : Value} {w' : World} (hs : a.eval s = u) (hx : a.eval x = y) (hrun : (Builtin.append_ #[t, t] o.type #[u, y]).run P w = .ok v' w')
    (hK : wpList P ops Q rest (a.put o.dst v') w') : wpList P ops Q (o :: rest) a w :=
  wpList_plain hg fun K hK' => by
    unfold Oper.wp
    simp [execOp, hop, resolve, invoke, builtin, hs, hx, hrun, Result.andThen]
    exact hK' _ _ hK
/-- How much a set that is being made can still grow. -/
def litMeas (X : Nat) (w : World) : Nat :=
  (match w.cell? ⟨X, 5, none⟩ with | some (.int _ c) => (4 - c).toNat | _ => 0) + (match w.cell? ⟨X, 2, none⟩ with | some (.int _ c) => (4 - c).toNat | _ => 0) + (match w.cell? ⟨X, 3, none⟩ with | some (.int _ c) => (3 - c).toNat | _ => 0)
theorem litMeas_of {w wz W : World} {g X : Nat} {s : TSet} {vA vB : Value} (h : Lit w wz W g X s vA vB) : litMeas X W = (4 - s.co).toNat + (4 - s.wi).toNat + (3 - s.dr).toNat := by
  obtain ⟨k0, k1, k2, k3, k4, k5, k6, k7, k8⟩ := set_cells h.bX
  unfold litMeas
  rw [k5, k2, k3]
theorem Lit.is {w wz W : World} {g X : Nat} {s : TSet} {vA vB : Value} (h : Lit w wz W g X s vA vB) : IsSet W (.agg #[.int .i64 s.pl, vA, .int .i64 s.wi, .int .i64 s.dr, .int .i64 s.fl, .int .i64 s.co, .int .i64 s.me, .int .i64 s.de, vB]) s := ⟨vA, vB, rfl, h.oA.is, h.oB.is⟩
/-- The value reads as this set; its lists lie in blocks of integers. -/
def IsSetF (w : World) (v : Value) (s : TSet) : Prop := ∃ a b, v = .agg #[.int .i64 s.pl, a, .int .i64 s.wi, .int .i64 s.dr, .int .i64 s.fl, .int .i64 s.co, .int .i64 s.me, .int .i64 s.de, b] ∧ IsIntsF w a s.su ∧ IsIntsF w b s.re
theorem IsSetF.is {w : World} {v : Value} {s : TSet} (h : IsSetF w v s) : IsSet w v s := by
  obtain ⟨a, b, e, h1, h2⟩ := h
  exact ⟨a, b, e, h1.1, h2.1⟩
theorem IsSetF.grow {w w' : World} {v : Value} {s : TSet} (h : IsSetF w v s) (g : Grow w w') : IsSetF w' v s := by
  obtain ⟨a, b, e, h1, h2⟩ := h
  exact ⟨a, b, e, h1.grow g, h2.grow g⟩
theorem IsIntsF.row {w : World} {v : Value} {zs : List Int} (h : IsIntsF w v zs) {R : Nat} {e : TypeId} {xs : List Value} (hb : Blk w R e xs) (he : e ≠ 3) (cs : Array Value) : IsIntsF (w.setRow R cs) v zs := by
  obtain ⟨⟨A, c, rfl, h1, h2, h3⟩, ht⟩ := h
  have key : ∀ ad, A = some ad → ad.block ≠ R := fun ad ha e2 => by
    obtain ⟨cur, hc⟩ := ht ad _ _ (by rw [ha])
    rw [e2] at hc
    unfold Blk at hb
    rw [hb] at hc
    injection hc with hc
    injection hc with _ hc
    exact he hc
  refine ⟨⟨A, c, rfl, h1, h2, fun i u hu => ?_⟩, fun ad n d hv => ?_⟩
  · obtain ⟨ad, e1, hlt, hc⟩ := h3 i u hu
    refine ⟨ad, e1, by simpa [World.setRow] using hlt, ?_⟩
    rw [World.cell?_of_block (w := w) (by rw [block_add]; exact setRow_other _ _ _ _ (key ad e1))]
    exact hc
  · have hA : A = some ad := by injection hv
    obtain ⟨cur, hc⟩ := ht ad n d hv
    exact ⟨cur, (setRow_other _ _ _ _ (key ad hA)).trans hc⟩
theorem IsSetF.row {w : World} {v : Value} {s : TSet} (h : IsSetF w v s) {R : Nat} {e : TypeId} {xs : List Value} (hb : Blk w R e xs) (he : e ≠ 3) (cs : Array Value) : IsSetF (w.setRow R cs) v s := by
  obtain ⟨a, b, e, h1, h2⟩ := h
  exact ⟨a, b, e, h1.row hb he cs, h2.row hb he cs⟩
/-- What Little and SetOf hand back. -/
def MadeSet (g : Nat) (w : World) (e : Ending) (w' : World) : Prop := ∃ v s, e = .returned v ∧ IsSetF w' v s ∧ chkErr s = 0 ∧ Src w' g ∧ But g w w'

set_option maxRecDepth 100000 in
set_option maxHeartbeats 8000000 in
theorem Little_any (g : Nat) (m : Int) (w : World) (hs : Src w g) (hm : 1 ≤ m ∧ m ≤ 2) : Calls Try.prog 86 #[.pointer (some ⟨g, 0, none⟩), .int .i64 m] w (MadeSet g w) := by
  have hgl := hs.lt
  go_enter Try.func86, Try.ntmps86
  go_wp2_with fail
  have b0 : But g w (w.alloc (.cells #[.int .i64 0, .slice none 0 0, .int .i64 0, .int .i64 0, .int .i64 0, .int .i64 0, .int .i64 0, .int .i64 0, .slice none 0 0] 24)) := But.of_grow ((Grow.refl _).alloc _)
  have s0 := hs.grow ((Grow.refl w).alloc (.cells #[.int .i64 0, .slice none 0 0, .int .i64 0, .int .i64 0, .int .i64 0, .int .i64 0, .int .i64 0, .int .i64 0, .slice none 0 0] 24))
  have bR : Blk (w.alloc (.cells #[.int .i64 0, .slice none 0 0, .int .i64 0, .int .i64 0, .int .i64 0, .int .i64 0, .int .i64 0, .int .i64 0, .slice none 0 0] 24)) w.heap.size 24 [.int .i64 0, .slice none 0 0, .int .i64 0, .int .i64 0, .int .i64 0, .int .i64 0, .int .i64 0, .int .i64 0, .slice none 0 0] := Blk.new_at rfl
  have B0 := hid (And.intro b0 bR)
  have hRl := bR.lt
  clear b0 bR
  generalize w.alloc (.cells #[.int .i64 0, .slice none 0 0, .int .i64 0, .int .i64 0, .int .i64 0, .int .i64 0, .int .i64 0, .int .i64 0, .slice none 0 0] 24) = wR at *
  refine (Range_any g 2 4 _ s0 (by omega) (by omega) (by omega)).mono ?_
  rintro e w1 ⟨co, rfl, co0, co1, hs1, hb1⟩
  go_wp2_with fail
  refine (Below_any g 3 _ hs1 (by omega)).mono ?_
  rintro e w2 ⟨wi, rfl, wi0, wi1, -, hs2, hb2⟩
  go_wp2_with fail
  refine (Below_any g 3 _ hs2 (by omega)).mono ?_
  rintro e w3 ⟨dr, rfl, dr0, dr1, -, hs3, hb3⟩
  go_wp2_with fail
  refine (Below_any g 2 _ hs3 (by omega)).mono ?_
  rintro e w4 ⟨fl, rfl, fl0, fl1, -, hs4, hb4⟩
  go_wp2_with fail
  refine (Below_any g 3 _ hs4 (by omega)).mono ?_
  rintro e w5 ⟨de, rfl, de0, de1, -, hs5, hb5⟩
  have wi2 := wi1 (by omega)
  have dr2 := dr1 (by omega)
  have fl2 := fl1 (by omega)
  have de2 := de1 (by omega)
  have b5 := (((hb1.trans hb2).trans hb3).trans hb4).trans hb5
  clear wi1 dr1 fl1 de1 hb1 hb2 hb3 hb4 hb5 hs1 hs2 hs3 hs4 s0
  go_wp2_with fail
  have hX : wR.heap.size ≤ w5.heap.size := b5.size
  have lit0 : Lit wR (w5.alloc (.cells #[.int .i64 3, .slice none 0 0, .int .i64 wi, .int .i64 dr, .int .i64 fl, .int .i64 co, .int .i64 m, .int .i64 de, .slice none 0 0] 24)) (w5.alloc (.cells #[.int .i64 3, .slice none 0 0, .int .i64 wi, .int .i64 dr, .int .i64 fl, .int .i64 co, .int .i64 m, .int .i64 de, .slice none 0 0] 24)) g w5.heap.size ⟨3, [], wi, dr, fl, co, m, de, []⟩ (.slice none 0 0) (.slice none 0 0) :=
    ⟨Blk.new_at rfl, Own.nil _ _, Own.nil _ _, hs5.grow ((Grow.refl _).alloc _), b5.alloc _, (fun _ e => by cases e), by simp, hX, by omega, Nat.le_refl _⟩
  have NUM0 := hid (show LitNum ⟨3, [], wi, dr, fl, co, m, de, []⟩ m from ⟨rfl, by simp, by simp, by simp only; omega, by simp only; omega, by simp only; omega, by simp only; omega, rfl, by simp only; omega⟩)
  generalize w5.alloc (.cells #[.int .i64 3, .slice none 0 0, .int .i64 wi, .int .i64 dr, .int .i64 fl, .int .i64 co, .int .i64 m, .int .i64 de, .slice none 0 0] 24) = wz at *
  generalize w5.heap.size = X at *
  refine (Range_any g 1 2 _ lit0.src (by omega) (by omega) (by omega)).mono ?_
  rintro e w6 ⟨n, rfl, n0, n1, hs6, hb6⟩
  have LIT1 := hid (lit0.but hb6 hs6)
  clear lit0 hb6 hs6 hs5 b5
  obtain ⟨N, rfl⟩ := Int.eq_ofNat_of_zero_le (show 0 ≤ n by omega)
  go_wp2
  go_loopw [6] (fun i W => ∃ (j : Nat) (s : TSet) (vA : Value), j ≤ 2 ∧ i = .int .i64 (j : Int) ∧ LitNum s m ∧ s.su.length + j = N ∧ s.re = [] ∧ Lit wR wz W g X s vA (.slice none 0 0)) (fun i _ => (intOf i).toNat)
  case atStart => exact ⟨N, _, _, by omega, rfl, NUM0.out, by simp, rfl, LIT1.out⟩
  case round =>
    obtain ⟨j, s, vA, hj, rfl, hn, hlen, hre, hL⟩ := hrel
    have HN := hid hn
    have HL := hid hL
    have hLs := hL.oA.slice
    have hsl := hn.su2
    by_cases hpos : 0 < j
    · obtain ⟨A, c, rfl⟩ := hLs
      obtain ⟨c0, c1, c2, c3, c4, c5, c6, c7, c8⟩ := set_cells hL.bX
      have hp' : (0 : Int) < (j : Int) := by omega
      have hld := hL.grow (Grow.refl wr).drew
      have HLD := hid hld
      clear hL hn hld
      go_wp2
      go_region_law (first
        | (refine step_append_run rfl (.tmp 28) (.tmp 31) _ rfl rfl rfl HRUN.out ?_)
        | (go_simp; go_at_call 87; refine (Range_any g 3 5 _ HLD.out.src (by omega) (by omega) (by omega)).mono ?_; rintro e w7 ⟨z, rfl, z0, z1, hs7, hb7⟩; have L7 := HLD.out.but hb7 hs7; have hX7 := L7.bX.lt; clear c0 c1 c2 c3 c4 c5 c6 c7 c8; obtain ⟨c0, c1, c2, c3, c4, c5, c6, c7, c8⟩ := set_cells L7.bX; obtain ⟨A9, m9, c9, w9, hrun, d1, d2, L9⟩ := L7.appA 22 22 Try.underlying22 z (by omega); have HRUN := hid hrun; have HL9 := hid L9; clear hrun L9 L7 hb7 hs7))
      all_goals
        go_wp2
        refine ⟨⟨j - 1, { s with su := s.su ++ [z] }, _, by omega, by rw [show ((j - 1 : Nat) : Int) = (j : Int) - 1 by omega], ⟨HN.out.pl, fun y hy => ?_, by simp only [List.length_append, List.length_singleton]; omega, HN.out.wi, HN.out.dr, HN.out.fl, HN.out.co, HN.out.me, HN.out.de⟩, by simp only [List.length_append, List.length_singleton]; omega, hre, HL9.out⟩, by simp only [intOf]; omega⟩
        rcases List.mem_append.1 hy with h | h
        · exact HN.out.su y h
        · simp at h; subst h; exact ⟨z0, z1⟩
    · obtain rfl : j = 0 := by omega
      have hl1 : 1 ≤ s.su.length := by omega
      obtain ⟨A, c, rfl⟩ := hLs
      clear NUM0 LIT1 HN HL wi0 wi2 dr0 dr2 fl0 fl2 de0 de2 co0 co1
      obtain ⟨pl, su, wi', dr', fl, co', me, de, re⟩ := s
      obtain rfl : pl = 3 := hn.pl
      obtain rfl : m = me := hn.me.symm
      simp only at hre hsl hl1
      subst hre
      have hde := hn.de
      simp only at hde
      have LIT2 := hid hL
      have NUM2 := hid hn
      obtain ⟨c0, c1, c2, c3, c4, c5, c6, c7, c8⟩ := set_cells hL.bX
      simp only at c0 c1 c2 c3 c4 c5 c6 c7 c8
      clear hL hn
      go_wp2
      clear c0 c1 c2 c3 c4 c5 c6 c7 c8
      go_loopw [] (fun W => ∃ co wi dr : Int, LitNum ⟨3, su, wi, dr, fl, co, m, de, []⟩ m ∧ Lit wR wz W g X ⟨3, su, wi, dr, fl, co, m, de, []⟩ (.slice A su.length c) (.slice none 0 0)) (fun W => litMeas X W)
      case atStart => exact ⟨_, _, _, NUM2.out, LIT2.out⟩
      case round =>
        clear NUM2 LIT2
        obtain ⟨co, wi, dr, hn, hL⟩ := hrel
        have HN := hid hn
        have HL := hid hL
        have HM := hid (litMeas_of hL)
        have hsu := sumI_bound (l := su) fun z hz => by have := hn.su z hz; omega
        have hs3 : 3 ≤ sumI su := by
          cases su with
          | nil => simp at hl1
          | cons x l =>
            have h1 := hn.su x (by simp)
            have h2 := sumI_bound (l := l) fun z hz => by have := hn.su z (by simp [hz]); omega
            rw [sumI_cons]; omega
        have hs4 : sumI su ≤ 10 := by
          cases su with
          | nil => simp at hl1
          | cons x l =>
            have h1 := hn.su x (by simp)
            cases l with
            | nil => simp [sumI]; omega
            | cons y l =>
              have h2 := hn.su y (by simp)
              simp only [List.length_cons] at hsl
              have : l = [] := List.eq_nil_of_length_eq_zero (by omega)
              subst this
              simp [sumI]; omega
        have a1 := hn.wi
        have a2 := hn.dr
        have a3 := hn.fl
        have a4 := hn.co
        simp only at a1 a2 a3 a4
        have PL := hid (fun W (hg : Grow wr W) => Plain_any _ ⟨3, su, wi, dr, fl, co, m, de, []⟩ W (hL.is.grow hg) (fun z hz => by have := hn.su z hz; omega) (by simp only; omega) (by simp only; omega) (by simp only; omega))
        have KS := hid (fun W (hg : Grow wr W) => And.intro hg (set_cells (hL.bX.grow hg)))
        obtain ⟨P, hP⟩ : ∃ P, P = plainI ⟨3, su, wi, dr, fl, co, m, de, []⟩ := ⟨_, rfl⟩
        have hP2 : P = wi + dr + sumI su := hP
        rw [← hP] at PL
        have hm0 : 0 ≤ P * co := Int.mul_nonneg (by omega) (by omega)
        have hm1 : P * co ≤ 17 * 4 := Int.mul_le_mul (by omega) (by omega) (by omega) (by omega)
        have f1 : IntKind.i64.wrap (P * co) = P * co := IntWalk.i64_in _ (by omega)
        have f2 : IntKind.i64.wrap (P * co + fl) = P * co + fl := IntWalk.i64_in _ (by omega)
        have hP0 : 3 ≤ P := by omega
        have hP1 : P ≤ 17 := by omega
        have HP := hid hP
        have HP2 := hid hP2
        clear hP hP2 hL hn hsu
        simp only at KS PL
        by_cases hq : P * co + fl < 3 * (3 * m + 1) + 1 + de
        · have hq' : decide (P * co + fl < 3 * (3 * m + 1) + 1 + de) = true := decide_eq_true hq
          have HQ := hid hq
          by_cases g1 : co < 4
          · skip
            skip
            go_wp2
            go_region_held3 (fun W => Grow wr W ∧ W.cell? ⟨X, 0, none⟩ = some (.int .i64 3) ∧ W.cell? ⟨X, 1, none⟩ = some (.slice A su.length c) ∧ W.cell? ⟨X, 2, none⟩ = some (.int .i64 wi) ∧ W.cell? ⟨X, 3, none⟩ = some (.int .i64 dr) ∧ W.cell? ⟨X, 4, none⟩ = some (.int .i64 fl) ∧ W.cell? ⟨X, 5, none⟩ = some (.int .i64 co) ∧ W.cell? ⟨X, 6, none⟩ = some (.int .i64 m) ∧ W.cell? ⟨X, 7, none⟩ = some (.int .i64 de) ∧ W.cell? ⟨X, 8, none⟩ = some (.slice none 0 0))
              (exact KS.out _ (by first | assumption | exact (Grow.refl _).drew))
              ((go_at_call 34; have hS := (‹Grow wr _ ∧ _›).1; refine (PL.out _ hS).mono ?_; rintro e w8 ⟨rfl, hg8⟩; have hk8 := hS.trans hg8))
            all_goals
              obtain ⟨-, c0, c1, c2, c3, c4, c5, c6, c7, c8⟩ := KS.out _ hk8
              have fz := (HL.out.bX.grow hk8).free 5
              have NEW := hid ((HL.out.grow hk8).num 5 (.int .i64 (co + 1)) ⟨3, su, wi, dr, fl, (co + 1), m, de, []⟩ rfl rfl rfl)
              go_wp2
              exact ⟨⟨co + 1, wi, dr, ⟨HN.out.pl, HN.out.su, HN.out.su2, by simp only; omega, by simp only; omega, HN.out.fl, by simp only; omega, HN.out.me, HN.out.de⟩, NEW.out⟩, by rw [litMeas_of NEW.out, HM.out]; simp only; omega⟩

          · by_cases g2 : wi < 4
            · skip
              skip
              go_wp2
              go_region_held3 (fun W => Grow wr W ∧ W.cell? ⟨X, 0, none⟩ = some (.int .i64 3) ∧ W.cell? ⟨X, 1, none⟩ = some (.slice A su.length c) ∧ W.cell? ⟨X, 2, none⟩ = some (.int .i64 wi) ∧ W.cell? ⟨X, 3, none⟩ = some (.int .i64 dr) ∧ W.cell? ⟨X, 4, none⟩ = some (.int .i64 fl) ∧ W.cell? ⟨X, 5, none⟩ = some (.int .i64 co) ∧ W.cell? ⟨X, 6, none⟩ = some (.int .i64 m) ∧ W.cell? ⟨X, 7, none⟩ = some (.int .i64 de) ∧ W.cell? ⟨X, 8, none⟩ = some (.slice none 0 0))
                (exact KS.out _ (by first | assumption | exact (Grow.refl _).drew))
                ((go_at_call 34; have hS := (‹Grow wr _ ∧ _›).1; refine (PL.out _ hS).mono ?_; rintro e w8 ⟨rfl, hg8⟩; have hk8 := hS.trans hg8))
              all_goals
                obtain ⟨-, c0, c1, c2, c3, c4, c5, c6, c7, c8⟩ := KS.out _ hk8
                have fz := (HL.out.bX.grow hk8).free 2
                have NEW := hid ((HL.out.grow hk8).num 2 (.int .i64 (wi + 1)) ⟨3, su, (wi + 1), dr, fl, co, m, de, []⟩ rfl rfl rfl)
                go_wp2
                exact ⟨⟨co, wi + 1, dr, ⟨HN.out.pl, HN.out.su, HN.out.su2, by simp only; omega, by simp only; omega, HN.out.fl, by simp only; omega, HN.out.me, HN.out.de⟩, NEW.out⟩, by rw [litMeas_of NEW.out, HM.out]; simp only; omega⟩

            · by_cases g3 : dr < 3
              · skip
                skip
                go_wp2
                go_region_held3 (fun W => Grow wr W ∧ W.cell? ⟨X, 0, none⟩ = some (.int .i64 3) ∧ W.cell? ⟨X, 1, none⟩ = some (.slice A su.length c) ∧ W.cell? ⟨X, 2, none⟩ = some (.int .i64 wi) ∧ W.cell? ⟨X, 3, none⟩ = some (.int .i64 dr) ∧ W.cell? ⟨X, 4, none⟩ = some (.int .i64 fl) ∧ W.cell? ⟨X, 5, none⟩ = some (.int .i64 co) ∧ W.cell? ⟨X, 6, none⟩ = some (.int .i64 m) ∧ W.cell? ⟨X, 7, none⟩ = some (.int .i64 de) ∧ W.cell? ⟨X, 8, none⟩ = some (.slice none 0 0))
                  (exact KS.out _ (by first | assumption | exact (Grow.refl _).drew))
                  ((go_at_call 34; have hS := (‹Grow wr _ ∧ _›).1; refine (PL.out _ hS).mono ?_; rintro e w8 ⟨rfl, hg8⟩; have hk8 := hS.trans hg8))
                all_goals
                  obtain ⟨-, c0, c1, c2, c3, c4, c5, c6, c7, c8⟩ := KS.out _ hk8
                  have fz := (HL.out.bX.grow hk8).free 3
                  have NEW := hid ((HL.out.grow hk8).num 3 (.int .i64 (dr + 1)) ⟨3, su, wi, (dr + 1), fl, co, m, de, []⟩ rfl rfl rfl)
                  go_wp2
                  exact ⟨⟨co, wi, dr + 1, ⟨HN.out.pl, HN.out.su, HN.out.su2, by simp only; omega, by simp only; omega, HN.out.fl, by simp only; omega, HN.out.me, HN.out.de⟩, NEW.out⟩, by rw [litMeas_of NEW.out, HM.out]; simp only; omega⟩

              · exfalso
                obtain rfl : co = 4 := by omega
                have := HP2.out
                omega
        · have hq' : decide (P * co + fl < 3 * (3 * m + 1) + 1 + de) = false := decide_eq_false hq
          have HQ := hid hq
          go_wp2
          go_region_held3 (fun W => Grow wr W ∧ W.cell? ⟨X, 0, none⟩ = some (.int .i64 3) ∧ W.cell? ⟨X, 1, none⟩ = some (.slice A su.length c) ∧ W.cell? ⟨X, 2, none⟩ = some (.int .i64 wi) ∧ W.cell? ⟨X, 3, none⟩ = some (.int .i64 dr) ∧ W.cell? ⟨X, 4, none⟩ = some (.int .i64 fl) ∧ W.cell? ⟨X, 5, none⟩ = some (.int .i64 co) ∧ W.cell? ⟨X, 6, none⟩ = some (.int .i64 m) ∧ W.cell? ⟨X, 7, none⟩ = some (.int .i64 de) ∧ W.cell? ⟨X, 8, none⟩ = some (.slice none 0 0))
            (exact KS.out _ (by first | assumption | exact (Grow.refl _).drew))
            ((go_at_call 34; have hS := (‹Grow wr _ ∧ _›).1; refine (PL.out _ hS).mono ?_; rintro e w8 ⟨rfl, hg8⟩; have hk8 := hS.trans hg8))
          all_goals
            go_wp2
            have LIT3 := hid (HL.out.grow hk8)
            clear KS PL f1 f2 hq' hg8
            go_loopw [8] (fun i W => ∃ (k : Nat) (re : List Int) (vB : Value), (k : Int) ≤ P ∧ i = .int .i64 (k : Int) ∧ risErr P (-1) re = 0 ∧ (∀ z ∈ re, z < (k : Int)) ∧ re.length ≤ k ∧ Lit wR wz W g X ⟨3, su, wi, dr, fl, co, m, de, re⟩ (.slice A su.length c) vB) (fun i _ => P.toNat - (intOf i).toNat)
            case atStart => exact ⟨0, [], _, by omega, rfl, rfl, by simp, by simp, LIT3.out⟩
            case round =>
              obtain ⟨k, re, vB, hk, rfl, hri, hre, hrl, hL3⟩ := hrel
              obtain ⟨B, d, rfl⟩ := hL3.oB.slice
              have HL3 := hid hL3
              have HRI := hid (And.intro hri hre)
              have hb3 := hL3.bX.lt
              by_cases hlt : (k : Int) < P
              · have PL3 := hid (fun W hg => Plain_any _ ⟨3, su, wi, dr, fl, co, m, de, re⟩ W (hL3.is.grow hg) (fun z hz => by have := HN.out.su z hz; omega) (by simp only; omega) (by simp only; omega) (by simp only; omega))
                rw [show plainI ⟨3, su, wi, dr, fl, co, m, de, re⟩ = P from HP.out.symm] at PL3
                obtain ⟨c0, c1, c2, c3, c4, c5, c6, c7, c8⟩ := set_cells hL3.bX
                simp only at c0 c1 c2 c3 c4 c5 c6 c7 c8 PL3
                clear hL3 hri hre
                go_wp2_with fail
                refine (PL3.out _ (Grow.refl _)).mono ?_
                rintro e w9 ⟨rfl, hg9⟩
                have L9 := HL3.out.grow hg9
                go_wp2_with fail
                refine (Odds_any g 6 _ L9.src (by omega)).mono ?_
                rintro e wA ⟨b, rfl, hsA, hbA⟩
                have LA := L9.but hbA hsA
                have HLA := hid LA
                clear L9 hsA hbA hg9 c0 c1 c2 c3 c4 c5 c6 c7 c8
                obtain ⟨c0, c1, c2, c3, c4, c5, c6, c7, c8⟩ := set_cells LA.bX
                simp only at c0 c1 c2 c3 c4 c5 c6 c7 c8
                cases b
                · clear LA
                  go_wp2
                  exact ⟨⟨k + 1, re, _, by omega, by go_num, HRI.out.1, fun z hz => by have := HRI.out.2 z hz; omega, by omega, HLA.out⟩, by simp only [intOf]; omega⟩
                · obtain ⟨A9, m9, c9, w9', hrun, d1, d2, LB⟩ := LA.appB 22 22 Try.underlying22 (k : Int) (by simp only; omega)
                  have HRUN := hid hrun
                  have HLB := hid (show Lit wR wz (w9'.setCell ⟨X, 8, none⟩ (.slice A9 m9 c9)) g X ⟨3, su, wi, dr, fl, co, m, de, re ++ [(k : Int)]⟩ (.slice A su.length c) (.slice A9 m9 c9) from LB)
                  have E1 := hid (show risErr P (-1) (re ++ [(k : Int)]) = 0 from risErr_snoc HRI.out.1 HRI.out.2 (by omega) (by omega) hlt)
                  have E2 := hid (show ∀ z ∈ re ++ [(k : Int)], z < ((k + 1 : Nat) : Int) from fun z hz => by
                    rcases List.mem_append.1 hz with h | h
                    · have := HRI.out.2 z h; omega
                    · simp at h; omega)
                  have E3 := hid (show (re ++ [(k : Int)]).length ≤ k + 1 by simp; omega)
                  clear hrun LA LB
                  go_wp2_with (at_builtin; refine wpList_append_run rfl (.tmp 92) (.tmp 94) _ rfl rfl rfl HRUN.out ?_)
                  exact ⟨⟨k + 1, re ++ [(k : Int)], .slice A9 m9 c9, by omega, by go_num, E1.out, E2.out, E3.out, HLB.out⟩, by simp only [intOf]; omega⟩
              · have PL3 := hid (fun W hg => Plain_any _ ⟨3, su, wi, dr, fl, co, m, de, re⟩ W (hL3.is.grow hg) (fun z hz => by have := HN.out.su z hz; omega) (by simp only; omega) (by simp only; omega) (by simp only; omega))
                rw [show plainI ⟨3, su, wi, dr, fl, co, m, de, re⟩ = P from HP.out.symm] at PL3
                obtain ⟨c0, c1, c2, c3, c4, c5, c6, c7, c8⟩ := set_cells hL3.bX
                simp only at c0 c1 c2 c3 c4 c5 c6 c7 c8 PL3
                clear hL3 hri hre
                go_wp2_with fail
                refine (PL3.out _ (Grow.refl _)).mono ?_
                rintro e w9 ⟨rfl, hg9⟩
                have L9 := HL3.out.grow hg9
                have bR9 := L9.b.blk B0.out.2 (by omega)
                have BR9 := hid bR9
                have HL9 := hid L9
                clear c0 c1 c2 c3 c4 c5 c6 c7 c8
                obtain ⟨c0, c1, c2, c3, c4, c5, c6, c7, c8⟩ := set_cells L9.bX
                simp only at c0 c1 c2 c3 c4 c5 c6 c7 c8
                clear L9 bR9
                go_wp2_with (refine wpList_store_row (by rfl) 24 (.tmp 4) (.tmp 97) (by rfl) w.heap.size #[.int .i64 3, .slice A su.length c, .int .i64 wi, .int .i64 dr, .int .i64 fl, .int .i64 co, .int .i64 m, .int .i64 de, .slice B re.length d] (by rfl) (by rfl) 24 _ BR9.out (by kernel_rfl) (by rfl) (by simp [Value.oneCell']) ?_)
                have bF := Blk.row BR9.out [.int .i64 3, .slice A su.length c, .int .i64 wi, .int .i64 dr, .int .i64 fl, .int .i64 co, .int .i64 m, .int .i64 de, .slice B re.length d]
                obtain ⟨t0, t1, t2, t3, t4, t5, t6, t7, t8⟩ := set_cells (s := ⟨3, su, wi, dr, fl, co, m, de, re⟩) (a := .slice A su.length c) (b := .slice B re.length d) bF
                have hRX : w.heap.size < wz.heap.size := by have := HL9.out.n1; omega
                refine bodyPost_ret (v := .agg #[.int .i64 3, .slice A su.length c, .int .i64 wi, .int .i64 dr, .int .i64 fl, .int .i64 co, .int .i64 m, .int .i64 de, .slice B re.length d]) ?_ rfl ⟨_, ⟨3, su, wi, dr, fl, co, m, de, re⟩, rfl, ⟨_, _, rfl, ⟨(HL9.out.oA.farRow hRX _).is, (HL9.out.oA.farRow hRX _).tag⟩, (HL9.out.oB.farRow hRX _).is, (HL9.out.oB.farRow hRX _).tag⟩, LitNum.ok (m := m) ⟨HN.out.pl, HN.out.su, HN.out.su2, HN.out.wi, HN.out.dr, HN.out.fl, HN.out.co, HN.out.me, HN.out.de⟩ hm hl1 ?_ ?_, HL9.out.src.row (by omega) _, (B0.out.1.trans HL9.out.b).row (Nat.le_refl _) _⟩
                · simp only at t0 t1 t2 t3 t4 t5 t6 t7 t8
                  simp [results, Try.results86, go_sem, t0, t1, t2, t3, t4, t5, t6, t7, t8]
                · rw [show plainI ⟨3, su, wi, dr, fl, co, m, de, re⟩ = P from HP.out.symm]; exact HRI.out.1
                · rw [show plainI ⟨3, su, wi, dr, fl, co, m, de, re⟩ = P from HP.out.symm]; exact Int.not_lt.2 HQ.out
end Go.Proofs.Ytjiahcfegfimmaa
