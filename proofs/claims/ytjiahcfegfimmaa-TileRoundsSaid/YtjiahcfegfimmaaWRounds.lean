/-
  The walk of the law TileRounds.
-/
import Derived.Test.YtjiahcfegfimmaaRounds
import Derived.Test.YtjiahcfegfimmaaLong
namespace Go.Proofs.Ytjiahcfegfimmaa
open Go.RowKit

set_option maxRecDepth 100000 in
set_option maxHeartbeats 40000000 in
theorem walkTileRounds (v : Value) (zs : List Int) (k : Int) (w : World) (h : IsInts w v zs) (_hz : ∀ z ∈ zs, (Lit.int .i64 z).wf = true) (hk : (Lit.int .i64 k).wf = true) :
    Calls Try.prog 7 #[v, .int .i64 k] w (Gives w (.bool true)) := by
  have hkr := wf_range hk
  clear hk
  go_enter Try.func7, Try.ntmps7
  go_wp2_with fail
  refine (NewSource_any _ zs w h).mono ?_
  rintro e w1 ⟨g, rfl, hgw, hs1, hg1⟩
  go_wp2_with fail
  refine (SetOf_any g _ hs1).mono ?_
  rintro e w2 ⟨v', s, rfl, hi, hc, -, hb2⟩
  obtain ⟨A, c, B, d, rfl, -, -⟩ := hi.is.open_
  have HH := hid (set_head hg1 hgw hb2 hi)
  have V := valid_of hc
  clear hs1 hg1 hgw hb2 hi h _hz
  go_wp2_with (refine wpList_store_row (by rfl) 24 (.tmp 5) (.tmp 16) (by rfl) w2.heap.size #[.int .i64 s.pl, .slice A s.su.length c, .int .i64 s.wi, .int .i64 s.dr, .int .i64 s.fl, .int .i64 s.co, .int .i64 s.me, .int .i64 s.de, .slice B s.re.length d] (by rfl) (by rfl) 24 _ (heap_alloc_new w2 _) (by kernel_rfl) (by rfl) (by simp [Value.oneCell']) ?_)
  have HH : Hid (Blk ((w2.alloc (.cells #[.int .i64 0, .slice none 0 0, .int .i64 0, .int .i64 0, .int .i64 0, .int .i64 0, .int .i64 0, .int .i64 0, .slice none 0 0] 24)).setRow w2.heap.size #[.int .i64 s.pl, .slice A s.su.length c, .int .i64 s.wi, .int .i64 s.dr, .int .i64 s.fl, .int .i64 s.co, .int .i64 s.me, .int .i64 s.de, .slice B s.re.length d]) w2.heap.size 24 (setVals s (.slice A s.su.length c) (.slice B s.re.length d)) ∧ IsSet ((w2.alloc (.cells #[.int .i64 0, .slice none 0 0, .int .i64 0, .int .i64 0, .int .i64 0, .int .i64 0, .int .i64 0, .int .i64 0, .slice none 0 0] 24)).setRow w2.heap.size #[.int .i64 s.pl, .slice A s.su.length c, .int .i64 s.wi, .int .i64 s.dr, .int .i64 s.fl, .int .i64 s.co, .int .i64 s.me, .int .i64 s.de, .slice B s.re.length d]) (.agg #[.int .i64 s.pl, .slice A s.su.length c, .int .i64 s.wi, .int .i64 s.dr, .int .i64 s.fl, .int .i64 s.co, .int .i64 s.me, .int .i64 s.de, .slice B s.re.length d]) s ∧ Grow w ((w2.alloc (.cells #[.int .i64 0, .slice none 0 0, .int .i64 0, .int .i64 0, .int .i64 0, .int .i64 0, .int .i64 0, .int .i64 0, .slice none 0 0] 24)).setRow w2.heap.size #[.int .i64 s.pl, .slice A s.su.length c, .int .i64 s.wi, .int .i64 s.dr, .int .i64 s.fl, .int .i64 s.co, .int .i64 s.me, .int .i64 s.de, .slice B s.re.length d]) ∧ w2.heap.size < ((w2.alloc (.cells #[.int .i64 0, .slice none 0 0, .int .i64 0, .int .i64 0, .int .i64 0, .int .i64 0, .int .i64 0, .int .i64 0, .slice none 0 0] 24)).setRow w2.heap.size #[.int .i64 s.pl, .slice A s.su.length c, .int .i64 s.wi, .int .i64 s.dr, .int .i64 s.fl, .int .i64 s.co, .int .i64 s.me, .int .i64 s.de, .slice B s.re.length d]).heap.size) := HH
  generalize ((w2.alloc (.cells #[.int .i64 0, .slice none 0 0, .int .i64 0, .int .i64 0, .int .i64 0, .int .i64 0, .int .i64 0, .int .i64 0, .slice none 0 0] 24)).setRow w2.heap.size #[.int .i64 s.pl, .slice A s.su.length c, .int .i64 s.wi, .int .i64 s.dr, .int .i64 s.fl, .int .i64 s.co, .int .i64 s.me, .int .i64 s.de, .slice B s.re.length d]) = W0 at *
  generalize w2.heap.size = T at *
  have PN := hid (fun W (hg : Grow W0 W) => Plain_any (.agg #[.int .i64 s.pl, .slice A s.su.length c, .int .i64 s.wi, .int .i64 s.dr, .int .i64 s.fl, .int .i64 s.co, .int .i64 s.me, .int .i64 s.de, .slice B s.re.length d]) s W (HH.out.2.1.grow hg) (fun z hz => by have := V.su z hz; omega) (by have := V.su3; omega) (by have := V.wi; omega) (by have := V.dr; omega))
  have PL := hid (fun W (hg : Grow W0 W) k => Place_any (.agg #[.int .i64 s.pl, .slice A s.su.length c, .int .i64 s.wi, .int .i64 s.dr, .int .i64 s.fl, .int .i64 s.co, .int .i64 s.me, .int .i64 s.de, .slice B s.re.length d]) s k W (HH.out.2.1.grow hg))
  have AF := hid (fun W (hg : Grow W0 W) k => After_any (.agg #[.int .i64 s.pl, .slice A s.su.length c, .int .i64 s.wi, .int .i64 s.dr, .int .i64 s.fl, .int .i64 s.co, .int .i64 s.me, .int .i64 s.de, .slice B s.re.length d]) s k W (HH.out.2.1.grow hg))
  have KS := hid (fun W (hg : Grow W0 W) => And.intro hg (set_cells (HH.out.1.grow hg)))
  have HG := hid (fun W (hg : Grow W0 W) => HH.out.2.2.1.trans hg)
  have v1 := V.plain
  have v2 := V.fl
  have HL := allP_length s
  rw [if_pos hc] at HL
  have e0 := Int.emod_nonneg k (show plainI s + s.fl ≠ 0 by omega)
  have e1 := Int.emod_lt_of_pos k (show 0 < plainI s + s.fl by omega)
  have IN := hid (fun W => Into_any k (plainI s + s.fl) W hkr.1 hkr.2 (by omega) (by omega))
  obtain ⟨-, c0, c1, c2, c3, c4, c5, c6, c7, c8⟩ := KS.out _ (Grow.refl W0)
  have hT := HH.out.2.2.2
  generalize hfr : k % (plainI s + s.fl) = fr at *
  have hm := place_in (s := s) e0 (by omega)
  obtain ⟨su, r, hp⟩ : ∃ su r, placeP s fr = (su, r) := ⟨_, _, rfl⟩
  have h4 : su ≠ -4 := fun h => by
    rw [hp, h] at hm
    rcases place_cases hc hm with ⟨j, q, -, h2⟩ | ⟨q, -, -, h2⟩ | ⟨q, -, -, h2⟩ | ⟨q, -, -, h2⟩ <;> (simp only at h2; injection h2 with h2 _; omega)
  have PF := hid (fun W (hg : Grow W0 W) => by have h := PL.out W hg fr; rw [hp] at h; exact h)
  obtain ⟨hsu, hr0, hr1, hl9, -, -, -⟩ := place_row hp h4
  obtain ⟨F, hF0, hFa, hFp, hFe, hFb⟩ := rounds_law hp h4
  have HSUZ := hid V.su
  have hs3 := V.su3
  clear hm hc V HL hfr hp h4
  generalize plainI s = pn at *
  obtain ⟨M, hM⟩ : ∃ M : Nat, lenI s su = (M : Int) := ⟨(lenI s su).toNat, by omega⟩
  have HML := hid hM
  rw [hM] at hFe hl9 hr1
  have hf0 : 0 ≤ fr ∧ fr ≤ 60 := by have := hFb 0; omega
  have FB := hid (And.intro hFa (And.intro hFp (And.intro hFe (And.intro hFb hF0))))
  have HSU := hid hsu
  clear hFa hFp hFe hFb hF0 hsu hM
  have FW := hid (show IntKind.i64.wrap (pn + s.fl) = pn + s.fl from IntWalk.i64_in _ (by omega))
  go_region_held3 (fun W => Grow W0 W ∧ W.cell? ⟨T, 0, none⟩ = some (.int .i64 s.pl) ∧ W.cell? ⟨T, 1, none⟩ = some (.slice A s.su.length c) ∧ W.cell? ⟨T, 2, none⟩ = some (.int .i64 s.wi) ∧ W.cell? ⟨T, 3, none⟩ = some (.int .i64 s.dr) ∧ W.cell? ⟨T, 4, none⟩ = some (.int .i64 s.fl) ∧ W.cell? ⟨T, 5, none⟩ = some (.int .i64 s.co) ∧ W.cell? ⟨T, 6, none⟩ = some (.int .i64 s.me) ∧ W.cell? ⟨T, 7, none⟩ = some (.int .i64 s.de) ∧ W.cell? ⟨T, 8, none⟩ = some (.slice B s.re.length d))
    (exact KS.out _ (by first | assumption | exact (Grow.refl _).drew))
    (first
      | (go_at_call 34; refine (PN.out _ (‹Grow W0 _ ∧ _›).1).mono ?_; rintro e w3 ⟨rfl, hg3⟩; have hg := (‹Grow W0 _ ∧ _›).1.trans hg3)
      | (go_at_call 33; try simp only [FW.out]; refine (IN.out _).mono ?_; rintro e w4 ⟨rfl, rfl⟩))
  all_goals
    rcases HSU.out with hsu | hsu | hsu | ⟨hs0, hs1⟩
    · subst hsu
      have HW := hid (show s.wi = (M : Int) from HML.out)
      go_wp2_with (go_at_call 35; refine (PF.out _ hg).mono ?_; rintro e w5 ⟨rfl, hg5⟩; have hgg := hg.trans hg5; clear c0 c1 c2 c3 c4 c5 c6 c7 c8; obtain ⟨-, c0, c1, c2, c3, c4, c5, c6, c7, c8⟩ := KS.out _ hgg)
      have HGG := hid hgg
      clear c0 c1 c2 c3 c4 c5 c6 c7 c8 hgg hg5
      go_loopw [10, 11] (fun cur n wr => ∃ k : Nat, k ≤ M ∧ n = .int .i64 ((k : Int) + 1) ∧ cur = .int .i64 (F k) ∧ Grow W0 wr) (fun _ n _ => M + 1 - (intOf n).toNat)
      case atStart => exact ⟨0, Nat.zero_le _, rfl, by rw [FB.out.2.2.2.2], HGG.out⟩
      case round =>
        obtain ⟨k, hk, rfl, rfl, hgr⟩ := hrel
        obtain ⟨-, c0, c1, c2, c3, c4, c5, c6, c7, c8⟩ := KS.out _ hgr
        have hMM := HW.out
        by_cases hlt : k < M
        · have A1 := hid (fun W (hg : Grow W0 W) => by have h := AF.out W hg (F k); rw [FB.out.1 k] at h; exact h)
          have P1 := hid (fun W (hg : Grow W0 W) => by have h := PL.out W hg (F (k + 1)); rw [FB.out.2.1 (k + 1)] at h; exact h)
          have n1 : (k : Int) + 1 ≤ s.wi := by omega
          have FE := hid (FB.out.2.2.1 (k + 1) (by omega) (by omega))
          generalize (placeP s (F (k + 1))).2 = r2 at *
          by_cases hn : k + 1 = M
          · have f2 : ((k : Int) + 1 == s.wi) = true := by simp; omega
            have hF : F (k + 1) = fr := FE.out.2 (by omega)
            have NX := hid (show Value.int .i64 fr = .int .i64 (F (k + 1)) by rw [hF])
            rw [hF] at A1 P1
            clear hF hMM
            go_wp2_with (first
              | (go_at_call 36; refine (A1.out _ hgr).mono ?_; rintro e w6 ⟨rfl, hg6⟩; have hh := hgr.trans hg6; clear c0 c1 c2 c3 c4 c5 c6 c7 c8; obtain ⟨-, c0, c1, c2, c3, c4, c5, c6, c7, c8⟩ := KS.out _ hh)
              | (go_at_call 35; refine (P1.out _ hh).mono ?_; rintro e w7 ⟨rfl, hg7⟩; have hh2 := hh.trans hg7))
            exact ⟨⟨k + 1, by omega, by go_num, NX.out, hh2⟩, by simp only [intOf]; omega⟩
          · have f2 : ((k : Int) + 1 == s.wi) = false := by simp; omega
            have f3 : (F (k + 1) == fr) = false := beq_eq_false_iff_ne.2 (fun h => by have := FE.out.1 h; omega)
            clear hMM
            go_wp2_with (first
              | (go_at_call 36; refine (A1.out _ hgr).mono ?_; rintro e w6 ⟨rfl, hg6⟩; have hh := hgr.trans hg6; clear c0 c1 c2 c3 c4 c5 c6 c7 c8; obtain ⟨-, c0, c1, c2, c3, c4, c5, c6, c7, c8⟩ := KS.out _ hh)
              | (go_at_call 35; refine (P1.out _ hh).mono ?_; rintro e w7 ⟨rfl, hg7⟩; have hh2 := hh.trans hg7))
            exact ⟨⟨k + 1, by omega, by go_num, rfl, hh2⟩, by simp only [intOf]; omega⟩
        · obtain rfl : k = M := by omega
          have n1 : ¬ (k : Int) + 1 ≤ s.wi := by omega
          clear hMM
          go_wp2_with (go_at_call 21; refine (awake_any _).mono ?_; rintro e w8 ⟨rfl, hg8⟩)
          go_ret
          exact ⟨rfl, HG.out _ (hgr.trans hg8)⟩
    · subst hsu
      have HW := hid (show s.dr = (M : Int) from HML.out)
      go_wp2_with (go_at_call 35; refine (PF.out _ hg).mono ?_; rintro e w5 ⟨rfl, hg5⟩; have hgg := hg.trans hg5; clear c0 c1 c2 c3 c4 c5 c6 c7 c8; obtain ⟨-, c0, c1, c2, c3, c4, c5, c6, c7, c8⟩ := KS.out _ hgg)
      have HGG := hid hgg
      clear c0 c1 c2 c3 c4 c5 c6 c7 c8 hgg hg5
      go_loopw [10, 11] (fun cur n wr => ∃ k : Nat, k ≤ M ∧ n = .int .i64 ((k : Int) + 1) ∧ cur = .int .i64 (F k) ∧ Grow W0 wr) (fun _ n _ => M + 1 - (intOf n).toNat)
      case atStart => exact ⟨0, Nat.zero_le _, rfl, by rw [FB.out.2.2.2.2], HGG.out⟩
      case round =>
        obtain ⟨k, hk, rfl, rfl, hgr⟩ := hrel
        obtain ⟨-, c0, c1, c2, c3, c4, c5, c6, c7, c8⟩ := KS.out _ hgr
        have hMM := HW.out
        by_cases hlt : k < M
        · have A1 := hid (fun W (hg : Grow W0 W) => by have h := AF.out W hg (F k); rw [FB.out.1 k] at h; exact h)
          have P1 := hid (fun W (hg : Grow W0 W) => by have h := PL.out W hg (F (k + 1)); rw [FB.out.2.1 (k + 1)] at h; exact h)
          have n1 : (k : Int) + 1 ≤ s.dr := by omega
          have FE := hid (FB.out.2.2.1 (k + 1) (by omega) (by omega))
          generalize (placeP s (F (k + 1))).2 = r2 at *
          by_cases hn : k + 1 = M
          · have f2 : ((k : Int) + 1 == s.dr) = true := by simp; omega
            have hF : F (k + 1) = fr := FE.out.2 (by omega)
            have NX := hid (show Value.int .i64 fr = .int .i64 (F (k + 1)) by rw [hF])
            rw [hF] at A1 P1
            clear hF hMM
            go_wp2_with (first
              | (go_at_call 36; refine (A1.out _ hgr).mono ?_; rintro e w6 ⟨rfl, hg6⟩; have hh := hgr.trans hg6; clear c0 c1 c2 c3 c4 c5 c6 c7 c8; obtain ⟨-, c0, c1, c2, c3, c4, c5, c6, c7, c8⟩ := KS.out _ hh)
              | (go_at_call 35; refine (P1.out _ hh).mono ?_; rintro e w7 ⟨rfl, hg7⟩; have hh2 := hh.trans hg7))
            exact ⟨⟨k + 1, by omega, by go_num, NX.out, hh2⟩, by simp only [intOf]; omega⟩
          · have f2 : ((k : Int) + 1 == s.dr) = false := by simp; omega
            have f3 : (F (k + 1) == fr) = false := beq_eq_false_iff_ne.2 (fun h => by have := FE.out.1 h; omega)
            clear hMM
            go_wp2_with (first
              | (go_at_call 36; refine (A1.out _ hgr).mono ?_; rintro e w6 ⟨rfl, hg6⟩; have hh := hgr.trans hg6; clear c0 c1 c2 c3 c4 c5 c6 c7 c8; obtain ⟨-, c0, c1, c2, c3, c4, c5, c6, c7, c8⟩ := KS.out _ hh)
              | (go_at_call 35; refine (P1.out _ hh).mono ?_; rintro e w7 ⟨rfl, hg7⟩; have hh2 := hh.trans hg7))
            exact ⟨⟨k + 1, by omega, by go_num, rfl, hh2⟩, by simp only [intOf]; omega⟩
        · obtain rfl : k = M := by omega
          have n1 : ¬ (k : Int) + 1 ≤ s.dr := by omega
          clear hMM
          go_wp2_with (go_at_call 21; refine (awake_any _).mono ?_; rintro e w8 ⟨rfl, hg8⟩)
          go_ret
          exact ⟨rfl, HG.out _ (hgr.trans hg8)⟩
    · subst hsu
      have HW := hid (show s.fl = (M : Int) from HML.out)
      go_wp2_with (go_at_call 35; refine (PF.out _ hg).mono ?_; rintro e w5 ⟨rfl, hg5⟩; have hgg := hg.trans hg5; clear c0 c1 c2 c3 c4 c5 c6 c7 c8; obtain ⟨-, c0, c1, c2, c3, c4, c5, c6, c7, c8⟩ := KS.out _ hgg)
      have HGG := hid hgg
      clear c0 c1 c2 c3 c4 c5 c6 c7 c8 hgg hg5
      go_loopw [10, 11] (fun cur n wr => ∃ k : Nat, k ≤ M ∧ n = .int .i64 ((k : Int) + 1) ∧ cur = .int .i64 (F k) ∧ Grow W0 wr) (fun _ n _ => M + 1 - (intOf n).toNat)
      case atStart => exact ⟨0, Nat.zero_le _, rfl, by rw [FB.out.2.2.2.2], HGG.out⟩
      case round =>
        obtain ⟨k, hk, rfl, rfl, hgr⟩ := hrel
        obtain ⟨-, c0, c1, c2, c3, c4, c5, c6, c7, c8⟩ := KS.out _ hgr
        have hMM := HW.out
        by_cases hlt : k < M
        · have A1 := hid (fun W (hg : Grow W0 W) => by have h := AF.out W hg (F k); rw [FB.out.1 k] at h; exact h)
          have P1 := hid (fun W (hg : Grow W0 W) => by have h := PL.out W hg (F (k + 1)); rw [FB.out.2.1 (k + 1)] at h; exact h)
          have n1 : (k : Int) + 1 ≤ s.fl := by omega
          have FE := hid (FB.out.2.2.1 (k + 1) (by omega) (by omega))
          generalize (placeP s (F (k + 1))).2 = r2 at *
          by_cases hn : k + 1 = M
          · have f2 : ((k : Int) + 1 == s.fl) = true := by simp; omega
            have hF : F (k + 1) = fr := FE.out.2 (by omega)
            have NX := hid (show Value.int .i64 fr = .int .i64 (F (k + 1)) by rw [hF])
            rw [hF] at A1 P1
            clear hF hMM
            go_wp2_with (first
              | (go_at_call 36; refine (A1.out _ hgr).mono ?_; rintro e w6 ⟨rfl, hg6⟩; have hh := hgr.trans hg6; clear c0 c1 c2 c3 c4 c5 c6 c7 c8; obtain ⟨-, c0, c1, c2, c3, c4, c5, c6, c7, c8⟩ := KS.out _ hh)
              | (go_at_call 35; refine (P1.out _ hh).mono ?_; rintro e w7 ⟨rfl, hg7⟩; have hh2 := hh.trans hg7))
            exact ⟨⟨k + 1, by omega, by go_num, NX.out, hh2⟩, by simp only [intOf]; omega⟩
          · have f2 : ((k : Int) + 1 == s.fl) = false := by simp; omega
            have f3 : (F (k + 1) == fr) = false := beq_eq_false_iff_ne.2 (fun h => by have := FE.out.1 h; omega)
            clear hMM
            go_wp2_with (first
              | (go_at_call 36; refine (A1.out _ hgr).mono ?_; rintro e w6 ⟨rfl, hg6⟩; have hh := hgr.trans hg6; clear c0 c1 c2 c3 c4 c5 c6 c7 c8; obtain ⟨-, c0, c1, c2, c3, c4, c5, c6, c7, c8⟩ := KS.out _ hh)
              | (go_at_call 35; refine (P1.out _ hh).mono ?_; rintro e w7 ⟨rfl, hg7⟩; have hh2 := hh.trans hg7))
            exact ⟨⟨k + 1, by omega, by go_num, rfl, hh2⟩, by simp only [intOf]; omega⟩
        · obtain rfl : k = M := by omega
          have n1 : ¬ (k : Int) + 1 ≤ s.fl := by omega
          clear hMM
          go_wp2_with (go_at_call 21; refine (awake_any _).mono ?_; rintro e w8 ⟨rfl, hg8⟩)
          go_ret
          exact ⟨rfl, HG.out _ (hgr.trans hg8)⟩
    · obtain ⟨j, rfl⟩ := Int.eq_ofNat_of_zero_le hs0
      have hj : j < s.su.length := by omega
      have hz := HSUZ.out s.su[j] (List.getElem_mem hj)
      have HW := hid (show s.su[j] = (M : Int) by have h := HML.out; rwa [lenI_suit hj] at h)
      obtain ⟨A9, c9, e9, -, -, r9⟩ := isSet_su HH.out.2.1
      injection e9 with e9 _ e9'
      subst e9 e9'
      have R1 := hid (fun W (hg : Grow W0 W) => (r9.grow hg).int hj)
      clear r9
      generalize s.su[j] = z at *
      have d0 : decide ((j : Int) < 0) = false := decide_eq_false (by omega)
      have d1 : decide ((s.su.length : Int) ≤ (j : Int)) = false := decide_eq_false (by omega)
      have d2 : decide (s.su.length ≤ j) = false := decide_eq_false (by omega)
      have q1 : ((j : Int) == -1) = false := beq_eq_false_iff_ne.2 (by omega)
      have q2 : ((j : Int) == -2) = false := beq_eq_false_iff_ne.2 (by omega)
      have q3 : ((j : Int) == -3) = false := beq_eq_false_iff_ne.2 (by omega)
      go_wp2_with (go_at_call 35; refine (PF.out _ hg).mono ?_; rintro e w5 ⟨rfl, hg5⟩; have hgg := hg.trans hg5; clear c0 c1 c2 c3 c4 c5 c6 c7 c8; obtain ⟨-, c0, c1, c2, c3, c4, c5, c6, c7, c8⟩ := KS.out _ hgg; obtain ⟨ad, rfl, _, hx⟩ := R1.out _ hgg)
      have HGG := hid hgg
      clear c0 c1 c2 c3 c4 c5 c6 c7 c8 hgg hg5
      go_loopw [10, 11] (fun cur n wr => ∃ k : Nat, k ≤ M ∧ n = .int .i64 ((k : Int) + 1) ∧ cur = .int .i64 (F k) ∧ Grow W0 wr) (fun _ n _ => M + 1 - (intOf n).toNat)
      case atStart => exact ⟨0, Nat.zero_le _, rfl, by rw [FB.out.2.2.2.2], HGG.out⟩
      case round =>
        obtain ⟨k, hk, rfl, rfl, hgr⟩ := hrel
        obtain ⟨-, c0, c1, c2, c3, c4, c5, c6, c7, c8⟩ := KS.out _ hgr
        have hMM := HW.out
        by_cases hlt : k < M
        · have A1 := hid (fun W (hg : Grow W0 W) => by have h := AF.out W hg (F k); rw [FB.out.1 k] at h; exact h)
          have P1 := hid (fun W (hg : Grow W0 W) => by have h := PL.out W hg (F (k + 1)); rw [FB.out.2.1 (k + 1)] at h; exact h)
          have n1 : (k : Int) + 1 ≤ z := by omega
          have FE := hid (FB.out.2.2.1 (k + 1) (by omega) (by omega))
          generalize (placeP s (F (k + 1))).2 = r2 at *
          by_cases hn : k + 1 = M
          · have f2 : ((k : Int) + 1 == z) = true := by simp; omega
            have hF : F (k + 1) = fr := FE.out.2 (by omega)
            have NX := hid (show Value.int .i64 fr = .int .i64 (F (k + 1)) by rw [hF])
            rw [hF] at A1 P1
            clear hF hMM
            go_wp2_with (first
              | (go_at_call 36; refine (A1.out _ hgr).mono ?_; rintro e w6 ⟨rfl, hg6⟩; have hh := hgr.trans hg6; clear c0 c1 c2 c3 c4 c5 c6 c7 c8; obtain ⟨-, c0, c1, c2, c3, c4, c5, c6, c7, c8⟩ := KS.out _ hh)
              | (go_at_call 35; refine (P1.out _ hh).mono ?_; rintro e w7 ⟨rfl, hg7⟩; have hh2 := hh.trans hg7))
            exact ⟨⟨k + 1, by omega, by go_num, NX.out, hh2⟩, by simp only [intOf]; omega⟩
          · have f2 : ((k : Int) + 1 == z) = false := by simp; omega
            have f3 : (F (k + 1) == fr) = false := beq_eq_false_iff_ne.2 (fun h => by have := FE.out.1 h; omega)
            clear hMM
            go_wp2_with (first
              | (go_at_call 36; refine (A1.out _ hgr).mono ?_; rintro e w6 ⟨rfl, hg6⟩; have hh := hgr.trans hg6; clear c0 c1 c2 c3 c4 c5 c6 c7 c8; obtain ⟨-, c0, c1, c2, c3, c4, c5, c6, c7, c8⟩ := KS.out _ hh)
              | (go_at_call 35; refine (P1.out _ hh).mono ?_; rintro e w7 ⟨rfl, hg7⟩; have hh2 := hh.trans hg7))
            exact ⟨⟨k + 1, by omega, by go_num, rfl, hh2⟩, by simp only [intOf]; omega⟩
        · obtain rfl : k = M := by omega
          have n1 : ¬ (k : Int) + 1 ≤ z := by omega
          clear hMM
          go_wp2_with (go_at_call 21; refine (awake_any _).mono ?_; rintro e w8 ⟨rfl, hg8⟩)
          go_ret
          exact ⟨rfl, HG.out _ (hgr.trans hg8)⟩
end Go.Proofs.Ytjiahcfegfimmaa
