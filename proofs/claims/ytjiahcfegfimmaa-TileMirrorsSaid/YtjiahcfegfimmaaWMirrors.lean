/-
  The walk of the law TileMirrors.
-/
import Derived.Test.YtjiahcfegfimmaaMirr
import Derived.Test.YtjiahcfegfimmaaSwap
import Derived.Test.YtjiahcfegfimmaaOrph
import Derived.Test.YtjiahcfegfimmaaEq
import Derived.Test.YtjiahcfegfimmaaLong
import Derived.Test.YtjiahcfegfimmaaQuietG
namespace Go.Proofs.Ytjiahcfegfimmaa
open Go.RowKit

/-- Whether a kind is an orphan, as a letter. -/
def OrphAs (s : TSet) (o : Bool) (z : Int) : Prop := decide (z ∈ orphansI s) = o
theorem In_as {s : TSet} {o : Bool} (v : Value) (z : Int) (W : World) (h : IsInts W v (orphansI s)) (hz : OrphAs s o z) : Calls Try.prog 53 #[v, .int .i64 z] W (Same W (.bool o)) := by
  have k := In_any v (orphansI s) z W h
  unfold OrphAs at hz
  rwa [hz] at k
/-- What is not there is no truth value. -/
theorem undef_guard : (match (some undef : Option Value) with | some (.bool b) => some b | _ => none) = none := rfl
set_option maxRecDepth 100000 in
set_option maxHeartbeats 40000000 in
theorem walkTileMirrors (v : Value) (zs : List Int) (k a b : Int) (w : World) (h : IsInts w v zs) (_hz : ∀ z ∈ zs, (Lit.int .i64 z).wf = true) (hk : (Lit.int .i64 k).wf = true) (ha : (Lit.int .i64 a).wf = true) (hb : (Lit.int .i64 b).wf = true) :
    Calls Try.prog 12 #[v, .int .i64 k, .int .i64 a, .int .i64 b] w (Gives w (.bool true)) := by
  have hkr := wf_range hk
  have har := wf_range ha
  have hbr := wf_range hb
  clear hk ha hb
  go_enter Try.func12, Try.ntmps12
  go_wp2_with fail
  refine (NewSource_any _ zs w h).mono ?_
  rintro e w1 ⟨g, rfl, hgw, hs1, hg1⟩
  go_wp2_with fail
  refine (SetOf_any g _ hs1).mono ?_
  rintro e w2 ⟨v', s, rfl, hi, hc, -, hb2⟩
  obtain ⟨A, c, B, d, rfl, -, -⟩ := hi.is.open_
  have HH := hid (set_head hg1 hgw hb2 hi)
  have V := valid_of hc
  clear hs1 hg1 hgw hb2 hi h _hz
  go_wp2_with (refine wpList_store_row (by rfl) 24 (.tmp 9) (.tmp 17) (by rfl) w2.heap.size #[.int .i64 s.pl, .slice A s.su.length c, .int .i64 s.wi, .int .i64 s.dr, .int .i64 s.fl, .int .i64 s.co, .int .i64 s.me, .int .i64 s.de, .slice B s.re.length d] (by rfl) (by rfl) 24 _ (heap_alloc_new w2 _) (by kernel_rfl) (by rfl) (by simp [Value.oneCell']) ?_)
  have HH : Hid (Blk ((w2.alloc (.cells #[.int .i64 0, .slice none 0 0, .int .i64 0, .int .i64 0, .int .i64 0, .int .i64 0, .int .i64 0, .int .i64 0, .slice none 0 0] 24)).setRow w2.heap.size #[.int .i64 s.pl, .slice A s.su.length c, .int .i64 s.wi, .int .i64 s.dr, .int .i64 s.fl, .int .i64 s.co, .int .i64 s.me, .int .i64 s.de, .slice B s.re.length d]) w2.heap.size 24 (setVals s (.slice A s.su.length c) (.slice B s.re.length d)) ∧ IsSet ((w2.alloc (.cells #[.int .i64 0, .slice none 0 0, .int .i64 0, .int .i64 0, .int .i64 0, .int .i64 0, .int .i64 0, .int .i64 0, .slice none 0 0] 24)).setRow w2.heap.size #[.int .i64 s.pl, .slice A s.su.length c, .int .i64 s.wi, .int .i64 s.dr, .int .i64 s.fl, .int .i64 s.co, .int .i64 s.me, .int .i64 s.de, .slice B s.re.length d]) (.agg #[.int .i64 s.pl, .slice A s.su.length c, .int .i64 s.wi, .int .i64 s.dr, .int .i64 s.fl, .int .i64 s.co, .int .i64 s.me, .int .i64 s.de, .slice B s.re.length d]) s ∧ Grow w ((w2.alloc (.cells #[.int .i64 0, .slice none 0 0, .int .i64 0, .int .i64 0, .int .i64 0, .int .i64 0, .int .i64 0, .int .i64 0, .slice none 0 0] 24)).setRow w2.heap.size #[.int .i64 s.pl, .slice A s.su.length c, .int .i64 s.wi, .int .i64 s.dr, .int .i64 s.fl, .int .i64 s.co, .int .i64 s.me, .int .i64 s.de, .slice B s.re.length d]) ∧ w2.heap.size < ((w2.alloc (.cells #[.int .i64 0, .slice none 0 0, .int .i64 0, .int .i64 0, .int .i64 0, .int .i64 0, .int .i64 0, .int .i64 0, .slice none 0 0] 24)).setRow w2.heap.size #[.int .i64 s.pl, .slice A s.su.length c, .int .i64 s.wi, .int .i64 s.dr, .int .i64 s.fl, .int .i64 s.co, .int .i64 s.me, .int .i64 s.de, .slice B s.re.length d]).heap.size) := HH
  generalize ((w2.alloc (.cells #[.int .i64 0, .slice none 0 0, .int .i64 0, .int .i64 0, .int .i64 0, .int .i64 0, .int .i64 0, .int .i64 0, .slice none 0 0] 24)).setRow w2.heap.size #[.int .i64 s.pl, .slice A s.su.length c, .int .i64 s.wi, .int .i64 s.dr, .int .i64 s.fl, .int .i64 s.co, .int .i64 s.me, .int .i64 s.de, .slice B s.re.length d]) = W0 at *
  generalize w2.heap.size = T at *
  have PN := hid (fun W (hg : Grow W0 W) => Plain_any (.agg #[.int .i64 s.pl, .slice A s.su.length c, .int .i64 s.wi, .int .i64 s.dr, .int .i64 s.fl, .int .i64 s.co, .int .i64 s.me, .int .i64 s.de, .slice B s.re.length d]) s W (HH.out.2.1.grow hg) (fun z hz => by have := V.su z hz; omega) (by have := V.su3; omega) (by have := V.wi; omega) (by have := V.dr; omega))
  have MI := hid (fun W (hg : Grow W0 W) k => Mirror_any (.agg #[.int .i64 s.pl, .slice A s.su.length c, .int .i64 s.wi, .int .i64 s.dr, .int .i64 s.fl, .int .i64 s.co, .int .i64 s.me, .int .i64 s.de, .slice B s.re.length d]) s k W (HH.out.2.1.grow hg))
  have SW := hid (fun W (hg : Grow W0 W) k a b => Swap_any (.agg #[.int .i64 s.pl, .slice A s.su.length c, .int .i64 s.wi, .int .i64 s.dr, .int .i64 s.fl, .int .i64 s.co, .int .i64 s.me, .int .i64 s.de, .slice B s.re.length d]) s k a b W (HH.out.2.1.grow hg))
  have RU := hid (fun W (hg : Grow W0 W) k => Runs_any (.agg #[.int .i64 s.pl, .slice A s.su.length c, .int .i64 s.wi, .int .i64 s.dr, .int .i64 s.fl, .int .i64 s.co, .int .i64 s.me, .int .i64 s.de, .slice B s.re.length d]) s k W (HH.out.2.1.grow hg))
  have OR := hid (fun W (hg : Grow W0 W) => Orphans_any (.agg #[.int .i64 s.pl, .slice A s.su.length c, .int .i64 s.wi, .int .i64 s.dr, .int .i64 s.fl, .int .i64 s.co, .int .i64 s.me, .int .i64 s.de, .slice B s.re.length d]) s W (HH.out.2.1.grow hg))
  have I3 := hid (fun W n (hn : -9223372036854775808 ≤ n ∧ n ≤ 9223372036854775807) => Into_any n 3 W hn.1 hn.2 (by omega) (by omega))
  have AF := hid (fun W (hg : Grow W0 W) k => After_any (.agg #[.int .i64 s.pl, .slice A s.su.length c, .int .i64 s.wi, .int .i64 s.dr, .int .i64 s.fl, .int .i64 s.co, .int .i64 s.me, .int .i64 s.de, .slice B s.re.length d]) s k W (HH.out.2.1.grow hg))
  have KS := hid (fun W (hg : Grow W0 W) => And.intro hg (set_cells (HH.out.1.grow hg)))
  have HG := hid (fun W (hg : Grow W0 W) => HH.out.2.2.1.trans hg)
  have v1 := V.plain
  have v2 := V.fl
  have HL := allP_length s
  rw [if_pos hc] at HL
  have e0 := Int.emod_nonneg k (show plainI s + s.fl ≠ 0 by omega)
  have e1 := Int.emod_lt_of_pos k (show 0 < plainI s + s.fl by omega)
  have IN := hid (fun W => Into_any k (plainI s + s.fl) W hkr.1 hkr.2 (by omega) (by omega))
  obtain ⟨-, c0, c1, c2, c3, c4, c5, c6, c7, c8⟩ := KS.out _ (Grow.refl W0)
  have hT := HH.out.2.2.2
  generalize hfr : k % (plainI s + s.fl) = fr at *
  have hm := place_in (s := s) e0 (by omega)
  obtain ⟨su, r, hp⟩ : ∃ su r, placeP s fr = (su, r) := ⟨_, _, rfl⟩
  have h4 : su ≠ -4 := fun h => by
    rw [hp, h] at hm
    rcases place_cases hc hm with ⟨j, q, -, h2⟩ | ⟨q, -, -, h2⟩ | ⟨q, -, -, h2⟩ | ⟨q, -, -, h2⟩ <;> (simp only at h2; injection h2 with h2 _; omega)
  have ML := hid (mirr_law (a % 3) (b % 3) hc hp h4)
  have hf := ML.out.bnd
  clear hm hc V HL hfr hp h4 e0 e1
  generalize plainI s = pn at *
  have FW := hid (show IntKind.i64.wrap (pn + s.fl) = pn + s.fl from IntWalk.i64_in _ (by omega))
  go_region_held3 (fun W => Grow W0 W ∧ W.cell? ⟨T, 0, none⟩ = some (.int .i64 s.pl) ∧ W.cell? ⟨T, 1, none⟩ = some (.slice A s.su.length c) ∧ W.cell? ⟨T, 2, none⟩ = some (.int .i64 s.wi) ∧ W.cell? ⟨T, 3, none⟩ = some (.int .i64 s.dr) ∧ W.cell? ⟨T, 4, none⟩ = some (.int .i64 s.fl) ∧ W.cell? ⟨T, 5, none⟩ = some (.int .i64 s.co) ∧ W.cell? ⟨T, 6, none⟩ = some (.int .i64 s.me) ∧ W.cell? ⟨T, 7, none⟩ = some (.int .i64 s.de) ∧ W.cell? ⟨T, 8, none⟩ = some (.slice B s.re.length d))
    (exact KS.out _ (by first | assumption | exact (Grow.refl _).drew))
    (first
      | (go_at_call 34; refine (PN.out _ (‹Grow W0 _ ∧ _›).1).mono ?_; rintro e w3 ⟨rfl, hg3⟩; have hg := (‹Grow W0 _ ∧ _›).1.trans hg3)
      | (go_at_call 33; try simp only [FW.out]; refine (IN.out _).mono ?_; rintro e w4 ⟨rfl, rfl⟩))
  all_goals
    go_wp2_with (go_at_call 33; refine (I3.out _ _ (by assumption)).mono ?_; rintro e w' ⟨rfl, rfl⟩)
    have ML3 := ML.out
    have a0 := Int.emod_nonneg a (show (3 : Int) ≠ 0 by omega)
    have b0 := Int.emod_nonneg b (show (3 : Int) ≠ 0 by omega)
    generalize a % 3 = a3 at *
    generalize b % 3 = b3 at *
    have ML4 := hid ML3
    clear ML ML3 har hbr hkr
    go_region_held3 (fun W => Grow W0 W ∧ W.cell? ⟨T, 0, none⟩ = some (.int .i64 s.pl) ∧ W.cell? ⟨T, 1, none⟩ = some (.slice A s.su.length c) ∧ W.cell? ⟨T, 2, none⟩ = some (.int .i64 s.wi) ∧ W.cell? ⟨T, 3, none⟩ = some (.int .i64 s.dr) ∧ W.cell? ⟨T, 4, none⟩ = some (.int .i64 s.fl) ∧ W.cell? ⟨T, 5, none⟩ = some (.int .i64 s.co) ∧ W.cell? ⟨T, 6, none⟩ = some (.int .i64 s.me) ∧ W.cell? ⟨T, 7, none⟩ = some (.int .i64 s.de) ∧ W.cell? ⟨T, 8, none⟩ = some (.slice B s.re.length d))
      (exact KS.out _ (by first | assumption | exact hg.drew))
      (first
        | (go_at_call 47; have hS := (‹Grow W0 _ ∧ _›).1; refine (MI.out _ hS _).mono ?_; rintro e wA ⟨rfl, hgA⟩; have hkA := hS.trans hgA)
        | (go_at_call 49; have hS := (‹Grow W0 _ ∧ _›).1; refine (SW.out _ hS _ _ _).mono ?_; rintro e wB ⟨rfl, hgB⟩; have hkB := hS.trans hgB))
    all_goals
      have f1 : (mirrorI s (mirrorI s fr) != fr) = false := by simp [ML4.out.mm]
      have f2 : (swapI s (swapI s fr a3 b3) a3 b3 != fr) = false := by simp [ML4.out.ss]
      have f3 : (afterI s (swapI s fr a3 b3) != swapI s (afterI s fr) a3 b3) = false := by simp [ML4.out.as_]
      obtain ⟨ob, hob⟩ : ∃ ob, ob = decide (fr ∈ orphansI s) := ⟨_, rfl⟩
      have ob1 : OrphAs s ob fr := hob.symm
      have ob2 : OrphAs s ob (mirrorI s fr) := ML4.out.om.trans hob.symm
      have ob3 : OrphAs s ob (swapI s fr a3 b3) := ML4.out.os.trans hob.symm
      clear hob
      have hkB5 := hkB
      go_wp2
      go_region_held3 (fun W => Grow W0 W ∧ W.cell? ⟨T, 0, none⟩ = some (.int .i64 s.pl) ∧ W.cell? ⟨T, 1, none⟩ = some (.slice A s.su.length c) ∧ W.cell? ⟨T, 2, none⟩ = some (.int .i64 s.wi) ∧ W.cell? ⟨T, 3, none⟩ = some (.int .i64 s.dr) ∧ W.cell? ⟨T, 4, none⟩ = some (.int .i64 s.fl) ∧ W.cell? ⟨T, 5, none⟩ = some (.int .i64 s.co) ∧ W.cell? ⟨T, 6, none⟩ = some (.int .i64 s.me) ∧ W.cell? ⟨T, 7, none⟩ = some (.int .i64 s.de) ∧ W.cell? ⟨T, 8, none⟩ = some (.slice B s.re.length d))
        (exact KS.out _ (by first | assumption | exact hkB.drew))
        (first
          | (go_at_call 47; have hS := (‹Grow W0 _ ∧ _›).1; refine (MI.out _ hS _).mono ?_; rintro e wC ⟨rfl, hgC⟩; have hkC := hS.trans hgC)
          | (go_at_call 49; have hS := (‹Grow W0 _ ∧ _›).1; refine (SW.out _ hS _ _ _).mono ?_; rintro e wD ⟨rfl, hgD⟩; have hkD := hS.trans hgD)
          | (go_at_call 36; have hS := (‹Grow W0 _ ∧ _›).1; refine (AF.out _ hS _).mono ?_; rintro e wE ⟨rfl, hgE⟩; have hkE := hS.trans hgE))
      all_goals
        obtain ⟨-, z0, z1, z2, z3, z4, z5, z6, z7, z8⟩ := KS.out _ hkD
        cases hrn : runsB s fr
        · have RF := hid (fun W (hg : Grow W0 W) => by have h := RU.out W hg fr; rw [hrn] at h; exact h)
          have RS := hid (fun W (hg : Grow W0 W) => by have h := RU.out W hg (swapI s fr a3 b3); rw [ML4.out.rs, hrn] at h; exact h)
          clear hrn f1 f2 f3
          go_wp2_with (go_at_call 51; refine (RF.out _ hkD).mono ?_; rintro e wH ⟨rfl, hgH⟩; have hkH := hkD.trans hgH; clear z0 z1 z2 z3 z4 z5 z6 z7 z8; obtain ⟨-, z0, z1, z2, z3, z4, z5, z6, z7, z8⟩ := KS.out _ hkH)
          have bH := HH.out.1.grow hkH
          have qs := rg_cells bH
          obtain ⟨q0, q1, q2, q3, q4, q5, q6, q7, q8⟩ : (∀ p, _) ∧ (∀ p, _) ∧ (∀ p, _) ∧ (∀ p, _) ∧ (∀ p, _) ∧ (∀ p, _) ∧ (∀ p, _) ∧ (∀ p, _) ∧ (∀ p, _) := ⟨fun p => (qs p).1, fun p => (qs p).2.1, fun p => (qs p).2.2.1, fun p => (qs p).2.2.2.1, fun p => (qs p).2.2.2.2.1, fun p => (qs p).2.2.2.2.2.1, fun p => (qs p).2.2.2.2.2.2.1, fun p => (qs p).2.2.2.2.2.2.2.1, fun p => (qs p).2.2.2.2.2.2.2.2⟩
          clear bH qs
          refine wp_region_quiet_below (by kernel_rfl) (by kernel_rfl) ?_
          repeat (first | go_big_quiet_step ((go_at_call 51; exact q_gives (RS.out _ (hkH.trans (grow_rg _ _))))) | quiet_step ((go_at_call 51; exact q_gives (RS.out _ (hkH.trans (grow_rg _ _))))))
          refine wpQuiet_nil ?_
          intro _ hw'
          obtain ⟨pq, hw''⟩ := hw'
          subst hw''
          clear q0 q1 q2 q3 q4 q5 q6 q7 q8
          have hkL := hkH.trans (grow_rg _ pq)
          all_goals
            obtain ⟨-, z0, z1, z2, z3, z4, z5, z6, z7, z8⟩ := KS.out _ hkL
            go_wp2_with (first
              | (go_at_call 52; refine (OR.out _ hkL).mono ?_; rintro e wM ⟨vO, rfl, iO, hgM⟩; have hkM := hkL.trans hgM)
              | (go_at_call 53; refine (In_as _ _ _ iO (by assumption)).mono ?_; rintro e w' ⟨rfl, rfl⟩)
              | (go_at_call 21; refine (awake_any _).mono ?_; rintro e wN ⟨rfl, hgN⟩))
            go_ret
            exact ⟨rfl, HG.out _ (hkM.trans hgN)⟩
        · have RF := hid (fun W (hg : Grow W0 W) => by have h := RU.out W hg fr; rw [hrn] at h; exact h)
          have g1 := ML4.out.r1 hrn
          have g2 : (mirrorI s (fr + 2) + 2 != mirrorI s fr) = false := by simp [ML4.out.r2 hrn]
          have g3 : runsB s (swapI s fr a3 b3) = true := by rw [ML4.out.rs, hrn]
          have g4 := ML4.out.rb hrn
          clear hrn f1 f2 f3
          go_wp2_with (go_at_call 51; refine (RF.out _ hkD).mono ?_; rintro e wH ⟨rfl, hgH⟩; have hkH := hkD.trans hgH; clear z0 z1 z2 z3 z4 z5 z6 z7 z8; obtain ⟨-, z0, z1, z2, z3, z4, z5, z6, z7, z8⟩ := KS.out _ hkH)
          have RM := hid (fun W (hg : Grow W0 W) => by have h := RU.out W hg (mirrorI s (fr + 2)); rw [g1] at h; exact h)
          have RS := hid (fun W (hg : Grow W0 W) => by have h := RU.out W hg (swapI s fr a3 b3); rw [g3] at h; exact h)
          clear g1 g3
          have bH := HH.out.1.grow hkH
          have qs := rg_cells bH
          obtain ⟨q0, q1, q2, q3, q4, q5, q6, q7, q8⟩ : (∀ p, _) ∧ (∀ p, _) ∧ (∀ p, _) ∧ (∀ p, _) ∧ (∀ p, _) ∧ (∀ p, _) ∧ (∀ p, _) ∧ (∀ p, _) ∧ (∀ p, _) := ⟨fun p => (qs p).1, fun p => (qs p).2.1, fun p => (qs p).2.2.1, fun p => (qs p).2.2.2.1, fun p => (qs p).2.2.2.2.1, fun p => (qs p).2.2.2.2.2.1, fun p => (qs p).2.2.2.2.2.2.1, fun p => (qs p).2.2.2.2.2.2.2.1, fun p => (qs p).2.2.2.2.2.2.2.2⟩
          clear bH qs
          refine wp_region_quiet_below (by kernel_rfl) (by kernel_rfl) ?_
          repeat (go_big_quiet_step ((first
            | (go_at_call 47; exact q_gives (MI.out _ (hkH.trans (grow_rg _ _)) _))
            | (go_at_call 51; first | (with_reducible exact q_gives (RM.out _ (hkH.trans (grow_rg _ _)))) | (with_reducible exact q_gives (RS.out _ (hkH.trans (grow_rg _ _))))))))
          refine wpQuiet_nil ?_
          intro _ hw'
          obtain ⟨pq, hw''⟩ := hw'
          subst hw''
          clear q0 q1 q2 q3 q4 q5 q6 q7 q8
          have hkL := hkH.trans (grow_rg _ pq)
          all_goals
            obtain ⟨-, z0, z1, z2, z3, z4, z5, z6, z7, z8⟩ := KS.out _ hkL
            go_wp2_with (first
              | (go_at_call 52; refine (OR.out _ hkL).mono ?_; rintro e wM ⟨vO, rfl, iO, hgM⟩; have hkM := hkL.trans hgM)
              | (go_at_call 53; refine (In_as _ _ _ iO (by assumption)).mono ?_; rintro e w' ⟨rfl, rfl⟩)
              | (go_at_call 21; refine (awake_any _).mono ?_; rintro e wN ⟨rfl, hgN⟩))
            go_ret
            exact ⟨rfl, HG.out _ (hkM.trans hgN)⟩
end Go.Proofs.Ytjiahcfegfimmaa
