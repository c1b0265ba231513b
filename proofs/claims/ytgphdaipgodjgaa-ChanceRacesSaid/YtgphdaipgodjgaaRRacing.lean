/-
  The walk of the reference's Racing.
-/
import Derived.Test.YtgphdaipgodjgaaRacing
import Derived.Test.YtgphdaipgodjgaaKeep
namespace Go.Proofs.Ytgphdaipgodjgaa
open Go.RowKit

/-- Those who win never, of the places up to e. -/
def noneP (N D m e : Nat) : Int := (chooseI ((N : Int) - D) m - chooseI ((N : Int) - e) m) * m
theorem noneP_start (N D m : Nat) : noneP N D m D = 0 := by unfold noneP; rw [Int.sub_self, Int.zero_mul]
theorem noneP_step {N D m e : Nat} (h : D ≤ e) (he : e < N) (hm : 1 ≤ m) : noneP N D m e + chooseI ((N : Int) - ((e + 1 : Nat) : Int)) ((m : Int) - 1) * m = noneP N D m (e + 1) := by
  obtain ⟨i, rfl⟩ := Nat.exists_eq_add_of_le h
  exact hockey N D m (by omega) he hm
theorem noneP_end (N D m : Nat) (hm : 1 ≤ m) : noneP N D m N = chooseI ((N : Int) - D) m * m := by
  unfold noneP
  rw [Int.sub_self, chooseI_out (n := 0) (k := (m : Int)) (.inr (by omega)), Int.sub_zero]
theorem noneP_small {N D m e : Nat} (hN : N ≤ 136) (hm : m ≤ 136) (_h : D ≤ e) (_he : e ≤ N) : Small (noneP N D m e) := by
  have h1 := choose_big (n := (N : Int) - D) (m : Int) (by omega)
  have h2 := choose_big (n := (N : Int) - e) (m : Int) (by omega)
  have h3 : noneP N D m e ≤ big41 * 136 := by
    unfold noneP
    refine Int.le_trans (Int.mul_le_mul_of_nonneg_right (show chooseI ((N : Int) - D) m - chooseI ((N : Int) - e) m ≤ big41 by omega) (by omega)) ?_
    exact Int.mul_le_mul_of_nonneg_left (by omega) (Int.le_of_lt big41_pos)
  have := big41_pos
  exact small_big (by omega)
theorem mul_small {N m : Nat} {k : Int} {z : Int} (hz : z ≤ 136) (_hN : z ≤ N) (hm : m ≤ 136) : Small (chooseI z k * m) := by
  have h1 := choose_big (n := z) k hz
  have h3 : chooseI z k * m ≤ big41 * 136 := by
    refine Int.le_trans (Int.mul_le_mul_of_nonneg_right h1.2 (by omega)) ?_
    exact Int.mul_le_mul_of_nonneg_left (by omega) (Int.le_of_lt big41_pos)
  have := big41_pos
  exact small_big (by omega)
theorem of_int (v : Value) (M : Nat) (z k : Int) (w : World) (h : IsRows w v (triI M)) (h0 : 0 ≤ z) (h1 : z < M) :
    Calls Try.prog 58 #[v, .int .i64 z, .int .i64 k] w (fun e w' => (∃ u, e = .returned u ∧ IsNatF w u (chooseI z k)) ∧ w = w') := by
  obtain ⟨n, rfl⟩ := Int.eq_ofNat_of_zero_le h0
  exact of_any v M n k w h (by omega)

set_option maxRecDepth 100000 in
set_option maxHeartbeats 16000000 in
theorem rRacing_ok (v1 v2 : Value) (u : List Int) (ws : List (List Int)) (first draws : Int) (w : World) (h1 : IsInts w v1 u) (h2 : IsRowsI w v2 ws) (he : unErr u = 0) (ok : RaceOk u ws) :
    Calls Try.prog 42 #[v1, v2, .int .i64 first, .int .i64 draws] w (RaceOf w u ws first draws) := by
  have hun := fun W (hg : Grow w W) => (rcheckUnseen_any v1 u W (h1.grow hg)).mono (fun e w' h => (⟨h.1, h.2 ▸ Grow.refl _⟩ : Gives W (.int .i64 (unErr u)) e w'))
  rw [he] at hun
  have hall := fun W (hg : Grow w W) => rtotal_any v1 u W (h1.grow hg) (fun z hz => by have := ok.hu z hz; omega) (by have := ok.h34; omega)
  have hsum := sum_un he
  have hfin : ∀ er v wf, raceErr u ws first draws = er → er ≠ 0 → v = .agg #[.slice none 0 0, .slice none 0 0, .slice none 0 0] → Grow w wf → RaceOf w u ws first draws (.returned (.tuple #[v, .int .i64 er])) wf := fun er v wf he hne hv hg => by
    subst hv
    unfold RaceOf
    rw [if_neg (by rw [he]; exact hne), if_neg (by rw [he]; exact hne), if_neg (by rw [he]; exact hne), he]
    exact ⟨_, rfl, IsRace.nil, hg⟩
  have HEW := hid (fun (h : waitErr u.length ws ≠ 0) => (show raceErr u ws first draws = waitErr u.length ws from by
    unfold raceErr
    rw [if_neg (by omega), if_neg (by have := ok.s0; omega), if_neg (by have := ok.s4; omega), if_pos h]))
  have HER := hid (fun (h : waitErr u.length ws = 0) (h' : first < 0 ∨ (ws.length : Int) ≤ first ∨ draws < 0 ∨ sumI u < draws) => (show raceErr u ws first draws = 2 from by
    unfold raceErr
    rw [if_neg (by omega), if_neg (by have := ok.s0; omega), if_neg (by have := ok.s4; omega), if_neg (by omega), if_pos h']))
  have HE0 := hid (fun (h : waitErr u.length ws = 0) (h' : ¬ (first < 0 ∨ (ws.length : Int) ≤ first ∨ draws < 0 ∨ sumI u < draws)) => (show raceErr u ws first draws = 0 from by
    unfold raceErr
    rw [if_neg (by omega), if_neg (by have := ok.s0; omega), if_neg (by have := ok.s4; omega), if_neg (by omega), if_neg h']))
  have HF := hid hfin
  have HU := hid hun
  have HA := hid hall
  have OK := hid ok
  obtain ⟨T, hT⟩ := Int.eq_ofNat_of_zero_le hsum.1
  rw [hT] at HA
  have HT := hid hT
  have ht : T ≤ 136 := by omega
  have g0 : Grow w (w.alloc (.cells #[.slice none 0 0, .slice none 0 0, .slice none 0 0] 60)) := (Grow.refl w).alloc _
  have I1 := hid h1
  obtain ⟨A, c, rfl, hc1, hm1, r1⟩ := h1
  obtain ⟨B, d, rfl, hc2, hm2⟩ := h2.open_
  have HR := hid h2
  unfold maxLen at hm1 hm2
  have a0 := ok.h0
  have a1 := ok.h34
  have a2 := ok.s0
  have a3 := ok.s4
  have n0 : ((ws.length : Int) == 0) = false := beq_eq_false_iff_ne.2 (by omega)
  have n0' : (ws.length == 0) = false := beq_eq_false_iff_ne.2 (by omega)
  clear hun hall hsum he hfin ok hT h2
  go_enter Try.func42, Try.ntmps42
  go_wp2_with fail
  refine (HU.out _ g0).mono ?_
  rintro e w1 ⟨rfl, hg1⟩
  have bR := race_block hg1
  have gW := g0.trans hg1
  clear hg1 g0
  go_wp2_with fail
  go_loopw [11] (fun i wr => ∃ s : Nat, s ≤ ws.length ∧ i = .int .i64 (s : Int) ∧ waitErr u.length ws = waitErr u.length (ws.drop s) ∧ Blk wr w.heap.size 60 [.slice none 0 0, .slice none 0 0, .slice none 0 0] ∧ Grow w wr) (fun i _ => ws.length - (intOf i).toNat)
  case atStart => exact ⟨0, Nat.zero_le _, rfl, rfl, bR, gW⟩
  case round =>
    clear bR gW
    obtain ⟨s, hs, rfl, hwe, bR, hg⟩ := hrel
    have HWE := hid hwe
    clear hwe
    by_cases hlt : s < ws.length
    · have i1 : (s : Int) < (ws.length : Int) := by omega
      have i0 : (0 : Int) ≤ (s : Int) := by omega
      obtain ⟨ad, B, n, d, rfl, hb, hx0, hi, rfl⟩ := HR.out.at_ hlt
      obtain ⟨l, hl⟩ : ∃ l, l = ws[s] := ⟨_, rfl⟩
      rw [← hl] at hi hx0
      have hri := rcheckKinds_any _ l u.length wr (hi.grow hg)
      have hx := hg.cell_some hx0
      have hwd := waitErr_drop (many := u.length) hlt
      rw [← HWE.out, ← hl] at hwd
      have HWD := hid hwd
      clear hl hwd hx0
      by_cases he : risErr u.length (-1) l = 0
      · rw [he] at hri
        have HRI := hid hri
        have HW2 := hid (HWD.out.trans (if_pos he))
        clear he hri hi
        go_wp2_with fail
        refine HRI.out.mono ?_
        rintro e w3 ⟨rfl, m3, rfl⟩
        have bR3 := bR.drewN m3
        have hg3 := hg.drewN m3
        clear bR hg hx
        go_wp2
        exact ⟨⟨s + 1, by omega, by go_num, HW2.out, bR3, hg3⟩, by simp only [intOf]; omega⟩
      · have HE := hid (HEW.out (by rw [HWD.out, if_neg he]; exact he))
        have HW2 := hid (HWD.out.trans (if_neg he))
        have hne2 : (risErr u.length (-1) l != 0) = true := by simp [he]
        generalize risErr u.length (-1) l = n2 at *
        have HN := hid he
        have HRI := hid hri
        clear he hri
        go_wp2_with fail
        refine HRI.out.mono ?_
        rintro e w3 ⟨rfl, m3, rfl⟩
        have bR3 := bR.drewN m3
        have hg3 := hg.drewN m3
        clear bR hg hx
        generalize wr.drewN m3 = w3 at *
        have q0 := bR3.cell 0
        have q1 := bR3.cell 1
        have q2 := bR3.cell 2
        have f0 := bR3.free 0
        have f1 := bR3.free 1
        have f2 := bR3.free 2
        simp only [List.getElem?_cons_zero, List.getElem?_cons_succ] at q0 q1 q2
        have bg := ((hg3.set (p := ⟨w.heap.size, 0, none⟩) (Nat.le_refl _) (.slice none 0 0)).set (p := ⟨w.heap.size, 1, none⟩) (Nat.le_refl _) (.slice none 0 0)).set (p := ⟨w.heap.size, 2, none⟩) (Nat.le_refl _) (.slice none 0 0)
        go_wp2
        refine bodyPost_ret (v := .tuple #[.agg #[.slice none 0 0, .slice none 0 0, .slice none 0 0], .int .i64 n2]) (by simp [results, Try.results42, go_sem, q0, q1, q2]) rfl (HF.out n2 _ _ (HE.out.trans HW2.out) HN.out rfl bg)
    · obtain rfl : s = ws.length := by omega
      have hw0 : waitErr u.length ws = 0 := by rw [HWE.out, List.drop_length]; rfl
      have HW0 := hid hw0
      have q0 := bR.cell 0
      have q1 := bR.cell 1
      have q2 := bR.cell 2
      have f0 := bR.free 0
      have f1 := bR.free 1
      have f2 := bR.free 2
      simp only [List.getElem?_cons_zero, List.getElem?_cons_succ] at q0 q1 q2
      have bg := ((hg.set (p := ⟨w.heap.size, 0, none⟩) (Nat.le_refl _) (.slice none 0 0)).set (p := ⟨w.heap.size, 1, none⟩) (Nat.le_refl _) (.slice none 0 0)).set (p := ⟨w.heap.size, 2, none⟩) (Nat.le_refl _) (.slice none 0 0)
      clear hw0
      go_wp2_with fail
      refine (HA.out _ hg).mono ?_
      rintro e w3 ⟨rfl, rfl⟩
      by_cases b1 : first < 0
      · have HE := hid (HER.out HW0.out (.inl b1))
        go_wp2
        refine bodyPost_ret (v := .tuple #[.agg #[.slice none 0 0, .slice none 0 0, .slice none 0 0], .int .i64 2]) (by simp [results, Try.results42, go_sem, q0, q1, q2]) rfl (HF.out 2 _ _ HE.out (by omega) rfl bg)
      · by_cases b2 : (ws.length : Int) ≤ first
        · have HE := hid (HER.out HW0.out (.inr (.inl b2)))
          go_wp2
          refine bodyPost_ret (v := .tuple #[.agg #[.slice none 0 0, .slice none 0 0, .slice none 0 0], .int .i64 2]) (by simp [results, Try.results42, go_sem, q0, q1, q2]) rfl (HF.out 2 _ _ HE.out (by omega) rfl bg)
        · by_cases b3 : draws < 0
          · have HE := hid (HER.out HW0.out (.inr (.inr (.inl b3))))
            go_wp2
            refine bodyPost_ret (v := .tuple #[.agg #[.slice none 0 0, .slice none 0 0, .slice none 0 0], .int .i64 2]) (by simp [results, Try.results42, go_sem, q0, q1, q2]) rfl (HF.out 2 _ _ HE.out (by omega) rfl bg)
          · by_cases b4 : (T : Int) < draws
            · have HE := hid (HER.out HW0.out (.inr (.inr (.inr (by rw [HT.out]; exact b4)))))
              go_wp2
              refine bodyPost_ret (v := .tuple #[.agg #[.slice none 0 0, .slice none 0 0, .slice none 0 0], .int .i64 2]) (by simp [results, Try.results42, go_sem, q0, q1, q2]) rfl (HF.out 2 _ _ HE.out (by omega) rfl bg)
            · have HE := hid (HE0.out HW0.out (by rw [HT.out]; omega))
              obtain ⟨F, rfl⟩ := Int.eq_ofNat_of_zero_le (show 0 ≤ first by omega)
              obtain ⟨D, rfl⟩ := Int.eq_ofNat_of_zero_le (show 0 ≤ draws by omega)
              have hF : F < ws.length := by omega
              have hD : D ≤ T := by omega
              clear b1 b2 b3 b4 bg q0 q1 q2 f0 f1 f2 HEW HER HE0
              go_wp2_with (at_make; refine wpList_make_blk w _ rfl (.tmp 74) (.tmp 74) _ rfl 23 (.slice none 0 0) 24 Try.underlying58 infoNat rfl _ _ _ _ ws.length rfl rfl (by omega) (by omega) (by omega) (by omega) hg ?_; intro GW w4 bW hGW hGW2 hg4 hg4')
              have bZ : WinsAt w4 GW ws.length (fun _ => 0) := ⟨_, by simp, bW, NatsAt.zeros fun _ => rfl⟩
              have bR4 := bR.grow hg4'
              have hGne : GW ≠ w.heap.size := by have := bR.lt; omega
              have gP : Grow w4 (w4.alloc (.cells #[.slice (some ⟨GW, 0, none⟩) ws.length ws.length, .slice none 0 0, .slice none 0 0] 60)) := (Grow.refl _).alloc _
              have bP : Blk (w4.alloc (.cells #[.slice (some ⟨GW, 0, none⟩) ws.length ws.length, .slice none 0 0, .slice none 0 0] 60)) w4.heap.size 60 [.slice (some ⟨GW, 0, none⟩) ws.length ws.length, .slice none 0 0, .slice none 0 0] := Blk.new_at rfl
              have bZ5 := bZ.grow gP
              have bW5 := bW.grow gP
              have bR5 := bR4.grow gP
              have hg5 := hg4.trans gP
              have hPne : w4.heap.size ≠ w.heap.size := by have := bR4.lt; omega
              have hPG : w4.heap.size ≠ GW := by have := bW.lt; omega
              have hPw : w.heap.size ≤ w4.heap.size := hg4.size
              clear bZ bR4 gP bW hg hg4' hg4 bR hGW2
              generalize w4.alloc (.cells #[.slice (some ⟨GW, 0, none⟩) ws.length ws.length, .slice none 0 0, .slice none 0 0] 60) = w5 at *
              generalize w4.heap.size = R2 at *
              have HR5 := hid (HR.out.grow hg5)
              go_loop [15, 16] (fun m i => ∃ k : Nat, k ≤ u.length ∧ i = .int .i64 (k : Int) ∧ m = .int .i64 (markM u ws k)) (fun _ i => u.length - (intOf i).toNat)
              case atStart => exact ⟨0, Nat.zero_le _, rfl, rfl⟩
              case round =>
                obtain ⟨k, hk, rfl, rfl⟩ := hrel
                obtain ⟨m0, hmb⟩ := markM_le OK.out.hu ws k
                have hsb := (OK.out.hu.take k).sum
                have hlk : (u.take k).length ≤ 34 := by rw [List.length_take]; omega
                have m1 : markM u ws k ≤ 136 := by omega
                have HMB := hid hmb
                clear hmb hsb hlk
                by_cases hlt : k < u.length
                · obtain ⟨ad, rfl, _, hx⟩ := (r1.grow hg5).int hlt
                  obtain ⟨u0, u4⟩ := OK.out.hu.at_ hlt
                  have i0 : (0 : Int) ≤ (k : Int) := by omega
                  have i1 : (k : Int) < (u.length : Int) := by omega
                  have WI := hid (winner_any _ ws 0 (k : Int) w5 HR5.out (by omega) (by omega))
                  have HS := hid (show markM u ws (k + 1) = markM u ws k + (if askB ws (k : Int) = true then u[k] else 0) from by
                    rw [markM, List.getD_eq_getElem?_getD, List.getElem?_eq_getElem hlt]; rfl)
                  rcases winI_ask ws 0 (k : Int) with ⟨h1, h2, h3⟩ | ⟨h1, h2⟩
                  · have HB := hid h1
                    generalize winI ws 0 (k : Int) = z at *
                    clear h1
                    go_wp2_with fail
                    refine WI.out.mono ?_
                    rintro e w6 ⟨rfl, rfl⟩
                    go_wp2
                    exact ⟨⟨k + 1, by omega, by go_num, by rw [HS.out, HB.out]; simp⟩, by simp only [intOf]; omega⟩
                  · have HB := hid h1
                    rw [h2] at WI
                    clear h1 h2
                    go_wp2_with fail
                    refine WI.out.mono ?_
                    rintro e w6 ⟨rfl, rfl⟩
                    go_wp2
                    exact ⟨⟨k + 1, by omega, by go_num, by rw [HS.out, HB.out]; simp⟩, by simp only [intOf]; omega⟩
                · obtain rfl : k = u.length := by omega
                  have hmT : markM u ws u.length ≤ T := by
                    have := HMB.out
                    rwa [List.take_length, HT.out] at this
                  obtain ⟨m, hm⟩ := Int.eq_ofNat_of_zero_le m0
                  rw [hm] at m0 m1 hmT ⊢
                  have HMM := hid (show markAll u ws = (m : Int) from hm)
                  have hmT' : m ≤ T := by omega
                  clear hm HMB hmT m0 m1
                  have RES := hid (show ∀ e w', RaceRes w ws.length (raceF u ws F D) (raceN u ws D) (raceA u ws) 0 e w' → RaceOf w u ws F D e w' from fun e w' h => by
                    unfold RaceOf
                    rw [HE.out, if_pos rfl, if_pos rfl, if_pos rfl]
                    exact h)
                  by_cases hz : m = 0
                  · have hmz : ((m : Int) == 0) = true := by simp [hz]
                    have HZ := hid hz
                    clear hz
                    go_wp2_with fail
                    refine (nat_any 1 _ (by omega) (by omega)).mono ?_
                    rintro e w6 ⟨vN, rfl, kN, g6⟩
                    obtain ⟨A1, m1, c1, rfl⟩ := kN.open_
                    go_wp2_with fail
                    refine (nat_any 1 _ (by omega) (by omega)).mono ?_
                    rintro e w7 ⟨vA, rfl, kA, g7⟩
                    obtain ⟨A2, m2, c2, rfl⟩ := kA.open_
                    have gg := g6.trans g7
                    have bZ7 := bZ5.grow gg
                    have bR7 := bR5.grow gg
                    have bP7 := bP.grow gg
                    have kN7 := kN.grow g7
                    have hg7 := hg5.trans gg
                    have q0 := bR7.cell 0
                    have q1 := bR7.cell 1
                    have q2 := bR7.cell 2
                    have p0 := bP7.cell 0
                    have p1 := bP7.cell 1
                    have p2 := bP7.cell 2
                    simp only [List.getElem?_cons_zero, List.getElem?_cons_succ] at q0 q1 q2 p0 p1 p2
                    have f0 := bR7.free 0
                    have f1 := bR7.free 1
                    have f2 := bR7.free 2
                    have e1 := bP7.free 1
                    have e2 := bP7.free 2
                    have bP8 := (bP7.set 1 (.slice A1 m1 c1)).set 2 (.slice A2 m2 c2)
                    have bR8 := (bR7.far (p := ⟨R2, 1, none⟩) hPne.symm (.slice A1 m1 c1)).far (p := ⟨R2, 2, none⟩) hPne.symm (.slice A2 m2 c2)
                    have bZ8 := (bZ7.far bP7 1 (.slice A1 m1 c1) hPG).far (bP7.set 1 (.slice A1 m1 c1)) 2 (.slice A2 m2 c2) hPG
                    have kN8 := (kN7.setFar (p := ⟨R2, 1, none⟩) bP7 (by decide) (.slice A1 m1 c1)).setFar (p := ⟨R2, 2, none⟩) (bP7.set 1 (.slice A1 m1 c1)) (by decide) (.slice A2 m2 c2)
                    have kA8 := (kA.setFar (p := ⟨R2, 1, none⟩) bP7 (by decide) (.slice A1 m1 c1)).setFar (p := ⟨R2, 2, none⟩) (bP7.set 1 (.slice A1 m1 c1)) (by decide) (.slice A2 m2 c2)
                    have hg8 := (hg7.set (p := ⟨R2, 1, none⟩) hPw (.slice A1 m1 c1)).set (p := ⟨R2, 2, none⟩) hPw (.slice A2 m2 c2)
                    have FIN := hid (race_of_wins (f' := raceF u ws F D) (er := 0) (by omega) bZ8 (fun s => by unfold raceF; rw [HMM.out, HZ.out]; rfl) kN8 kA8 bR8 hg8)
                    have RES2 := hid (fun e w' h => RES.out e w' (by
                      have e1 : raceN u ws D = 1 := by unfold raceN; rw [HMM.out, HZ.out]; rfl
                      have e2 : raceA u ws = 1 := by unfold raceA; rw [HMM.out, HZ.out]; rfl
                      rw [e1, e2]; exact h))
                    clear bP8 bR8 bZ8 kN8 kA8 hg8 bP7 bR7 bZ7 kN7 hg7 bP bR5 bZ5 kN kA g6 g7 gg hg5
                    go_wp2
                    refine bodyPost_ret (v := .tuple #[.agg #[.slice (some ⟨GW, 0, none⟩) ws.length ws.length, .slice A1 m1 c1, .slice A2 m2 c2], .int .i64 0]) (by simp [results, Try.results42, go_sem, q0, q1, q2]) rfl (RES2.out _ _ FIN.out)
                  · have hmz : ((m : Int) == 0) = false := by simp [hz]
                    have hm1 : 1 ≤ m := by omega
                    have HZ := hid hz
                    clear hz
                    go_wp2_with fail
                    refine (triangle_any T _ (by omega)).mono ?_
                    rintro e w6 ⟨vT, rfl, kT, g6⟩
                    have KT := hid fun W (hg : Grow w6 W) => kT.grow hg
                    clear kT
                    have hs1 := chooseI_small (n := (T : Int)) (m : Int) (by omega)
                    have hs3 : Small (m : Int) := small_of_lit (by omega)
                    have PR1 := hid (fun va vb W h1 h2 => times_any va vb (chooseI T m) m W h1 h2 hs1 hs3)
                    clear hs1 hs3
                    go_wp2_with fail
                    refine (of_int vT (T + 1) (T : Int) (m : Int) _ (KT.out _ (Grow.refl _)) (by omega) (by omega)).mono ?_
                    rintro e w7 ⟨⟨x1, rfl, k1⟩, rfl⟩
                    obtain ⟨B1, n1, d1, rfl⟩ := k1.open_
                    go_wp2_with fail
                    refine (nat_any (m : Int) _ (by omega) (by omega)).mono ?_
                    rintro e w7 ⟨x2, rfl, k2, g7⟩
                    obtain ⟨B2, n2, d2, rfl⟩ := k2.open_
                    go_wp2_with fail
                    refine (PR1.out _ _ _ (k1.grow g7).1 k2.1).mono ?_
                    rintro e w8 ⟨x3, rfl, kA, g8⟩
                    obtain ⟨A1, m1, c1, rfl⟩ := kA.open_
                    clear k1 k2
                    have gg := (g6.trans g7).trans g8
                    have bP7 := bP.grow gg
                    have bZ7 := bZ5.grow gg
                    have bR7 := bR5.grow gg
                    have hg7 := hg5.trans gg
                    have gT8 := g7.trans g8
                    have p2 := bP7.cell 2
                    simp only [List.getElem?_cons_zero, List.getElem?_cons_succ] at p2
                    have e2 := bP7.free 2
                    have bP8 := bP7.set 2 (.slice A1 m1 c1)
                    have bR8 := bR7.far (p := ⟨R2, 2, none⟩) hPne.symm (.slice A1 m1 c1)
                    have bZ8 := bZ7.far bP7 2 (.slice A1 m1 c1) hPG
                    have kA8 := kA.setFar (p := ⟨R2, 2, none⟩) bP7 (by decide) (.slice A1 m1 c1)
                    have hg8 := hg7.set (p := ⟨R2, 2, none⟩) hPw (.slice A1 m1 c1)
                    have RK := hid (fun W (hk : Kept2 GW R2 w6 W) => rows_keep (KT.out _ (Grow.refl _)) (bW5.grow g6) (bP.grow g6) (by decide) (by decide) hk)
                    have hk8 : Kept2 GW R2 w6 (w8.setCell ⟨R2, 2, none⟩ (.slice A1 m1 c1)) := ((Kept2.refl _ _ _).grow gT8).set2 2 _
                    simp only [List.set_cons_zero, List.set_cons_succ] at bP8
                    clear bP7 bR7 bZ7 hg7 bP bR5 bZ5 bW5 kA g6 g7 g8 gg hg5 PR1 KT gT8 HR5
                    go_wp2
                    generalize w8.setCell ⟨R2, 2, none⟩ (.slice A1 m1 c1) = w12 at *
                    clear p2 e2
                    go_loopw [18] (fun i wr => ∃ (j : Nat) (N1 : Option Addr) (N2 N3 : Nat), j ≤ T ∧ i = .int .i64 ((j : Int) + 1) ∧ WinsAt wr GW ws.length (fun s => raceW u ws F T m s (min j D)) ∧ Blk wr R2 60 [.slice (some ⟨GW, 0, none⟩) ws.length ws.length, .slice N1 N2 N3, .slice A1 m1 c1] ∧ Blk wr w.heap.size 60 [.slice none 0 0, .slice none 0 0, .slice none 0 0] ∧ IsNatF wr (.slice N1 N2 N3) (noneP T D m (max j D)) ∧ IsNatF wr (.slice A1 m1 c1) (chooseI T m * m) ∧ Kept2 GW R2 w6 wr ∧ Grow w wr) (fun i _ => T + 1 - (intOf i).toNat)
                    case atStart => exact ⟨0, none, 0, 0, Nat.zero_le _, rfl, by simpa [raceW] using bZ8, bP8, bR8, by rw [Nat.max_eq_right (Nat.zero_le _), noneP_start]; exact IsNatF.nil, kA8, hk8, hg8⟩
                    case round =>
                      clear bZ8 bP8 bR8 kA8 hk8 hg8
                      obtain ⟨j, N1, N2, N3, hj, rfl, bZ, bP, bR, kN, kA, hk2, hg⟩ := hrel
                      have kT := RK.out _ hk2
                      by_cases hlt : j < T
                      · have i1 : (j : Int) + 1 ≤ (T : Int) := by omega
                        have OF := hid (of_int vT (T + 1) ((T : Int) - ((j : Int) + 1)) ((m : Int) - 1) wr kT (by omega) (by omega))
                        clear kT
                        go_wp2_with fail
                        refine OF.out.mono ?_
                        rintro e w13 ⟨⟨x7, rfl, kB⟩, rfl⟩
                        obtain ⟨B7, n7, d7, rfl⟩ := kB.open_
                        clear OF
                        by_cases hjD : D ≤ j
                        · have i2 : (D : Int) < (j : Int) + 1 := by omega
                          have sm1 := noneP_small (N := T) (D := D) (m := m) (e := j) (by omega) (by omega) hjD (by omega)
                          have sm2 := chooseI_small (n := (T : Int) - ((j : Int) + 1)) ((m : Int) - 1) (by omega)
                          have sm3 : Small (m : Int) := small_of_lit (by omega)
                          have sm4 := mul_small (N := T) (m := m) (k := (m : Int) - 1) (z := (T : Int) - ((j : Int) + 1)) (by omega) (by omega) (by omega)
                          have hst := noneP_step (N := T) (D := D) (m := m) (e := j) hjD hlt hm1
                          rw [show ((j + 1 : Nat) : Int) = (j : Int) + 1 by omega] at hst
                          have kN' : IsNatF wr (.slice N1 N2 N3) (noneP T D m j) := by rw [Nat.max_eq_left hjD] at kN; exact kN
                          have hmj : min j D = min (j + 1) D := by omega
                          have hMj : max (j + 1) D = j + 1 := by omega
                          have NA := hid (fun W => nat_any (m : Int) W (by omega) (by omega))
                          have PR := hid (fun va vb W h1 h2 => times_any va vb _ (m : Int) W h1 h2 sm2 sm3)
                          have SU0 := fun va vb W h1 h2 => add_any va vb _ _ W h1 h2 sm1 sm4
                          rw [hst] at SU0
                          have SU := hid SU0
                          have HMJ := hid hmj
                          have HMX := hid hMj
                          have p1 := bP.cell 1
                          have f1 := bP.free 1
                          simp only [List.getElem?_cons_zero, List.getElem?_cons_succ] at p1
                          have KEEP := hid (fun W (hg : Grow wr W) => (⟨hg, hg.cell_some p1⟩ : Grow wr W ∧ W.cell? ⟨R2, 1, none⟩ = some (.slice N1 N2 N3)))
                          have HF1 := hid f1
                          have hRl := bP.lt
                          clear sm1 sm2 sm3 sm4 hst SU0 hmj hMj p1 f1 kN
                          go_wp2_with fail
                          refine anyBut_region 8 (S := fun W => Grow wr W ∧ W.cell? ⟨R2, 1, none⟩ = some (.slice N1 N2 N3)) (by kernel_rfl) (KEEP.out _ (Grow.refl _).drew) (fun hQ hHeld => ?_)
                          refine AnyBut.take 0 (v := ?_) (by rfl) (by kernel_rfl) (by kernel_rfl) (by kernel_rfl) (by kernel_rfl) hQ (by rfl) (fun w hS => ?_) hHeld ?_
                          rotate_left
                          · (try dsimp only at hS); go_simp; (try with_reducible rfl)
                          (try simp only [Act.put])
                          refine AnyBut.take 1 (v := ?_) (by rfl) (by kernel_rfl) (by kernel_rfl) (by kernel_rfl) (by kernel_rfl) hQ (by rfl) (fun w hS => ?_) hHeld ?_
                          rotate_left
                          · (try dsimp only at hS); go_simp; (try with_reducible rfl)
                          (try simp only [Act.put])
                          refine AnyBut.take 2 (v := ?_) (by rfl) (by kernel_rfl) (by kernel_rfl) (by kernel_rfl) (by kernel_rfl) hQ (by rfl) (fun w hS => ?_) hHeld ?_
                          rotate_left
                          · (try dsimp only at hS); go_simp; (try with_reducible rfl)
                          (try simp only [Act.put])
                          refine AnyBut.take 3 (v := ?_) (by rfl) (by kernel_rfl) (by kernel_rfl) (by kernel_rfl) (by kernel_rfl) hQ (by rfl) (fun w hS => ?_) hHeld ?_
                          rotate_left
                          · (try dsimp only at hS); go_simp; (try with_reducible rfl)
                          (try simp only [Act.put])
                          refine AnyBut.one 4 (by kernel_rfl) (by rfl) (fun K hK => ?_)
                          go_simp
                          refine (NA.out _).mono ?_
                          rintro e wA ⟨vA, rfl, kU, gA0⟩
                          have gA := (Grow.refl wr).drew.trans gA0
                          obtain ⟨A8, m8, c8, rfl⟩ := kU.open_
                          refine hK.out _ _ (KEEP.out _ gA) (fun hHeld => ?_)
                          (try simp only [Act.put])
                          refine AnyBut.one 5 (by kernel_rfl) (by rfl) (fun K hK => ?_)
                          go_simp
                          refine (PR.out _ _ _ (kB.grow gA).1 kU.1).mono ?_
                          rintro e wB ⟨vB, rfl, kB2, gB0⟩
                          have gB := gA.trans gB0
                          obtain ⟨A9, m9, c9, rfl⟩ := kB2.open_
                          refine hK.out _ _ (KEEP.out _ gB) (fun hHeld => ?_)
                          (try simp only [Act.put])
                          refine AnyBut.one 6 (by kernel_rfl) (by rfl) (fun K hK => ?_)
                          go_simp
                          refine (SU.out _ _ _ (kN'.grow gB).1 kB2.1).mono ?_
                          rintro e wC ⟨vC, rfl, kC, gC0⟩
                          have gC := gB.trans gC0
                          obtain ⟨A10, m10, c10, rfl⟩ := kC.open_
                          refine hK.out _ _ (KEEP.out _ gC) (fun hHeld => ?_)
                          (try simp only [Act.put])
                          refine AnyBut.take 7 (v := ?_) (by rfl) (by kernel_rfl) (by kernel_rfl) (by kernel_rfl) (by kernel_rfl) hQ (by rfl) (fun w hS => ?_) hHeld ?_
                          rotate_left
                          · (try dsimp only at hS); go_simp; (try with_reducible rfl)
                          (try simp only [Act.put])
                          have hcZ := hHeld.2
                          have hfZ := (gC.frozen (p := ⟨R2, 1, none⟩) hRl).trans HF1.out
                          refine AnyBut.last (by kernel_rfl) (by rfl) (by kernel_rfl) (fun K hK => ?_)
                          go_simp
                          refine hK.out _ _ ?_
                          refine NoPanic.normal ?_
                          have bP9 := (bP.grow gC).set 1 (.slice A10 m10 c10)
                          have bR9 := (bR.grow gC).far (p := ⟨R2, 1, none⟩) hPne.symm (.slice A10 m10 c10)
                          have bZ9 := (bZ.grow gC).far (bP.grow gC) 1 (.slice A10 m10 c10) hPG
                          have kA9 := (kA.grow gC).setFar (p := ⟨R2, 1, none⟩) (bP.grow gC) (by decide) (.slice A10 m10 c10)
                          have kC9 := kC.setFar (p := ⟨R2, 1, none⟩) (bP.grow gC) (by decide) (.slice A10 m10 c10)
                          have hg9 := (hg.trans gC).set (p := ⟨R2, 1, none⟩) hPw (.slice A10 m10 c10)
                          have hk9 := (hk2.grow gC).set2 1 (.slice A10 m10 c10)
                          simp only [List.set_cons_zero, List.set_cons_succ] at bP9
                          rw [HMJ.out] at bZ9
                          rw [← HMX.out] at kC9
                          clear bZ bP bR kA kB hg hcZ hfZ hk2 kC kN'
                          go_wp2
                          exact ⟨⟨j + 1, A10, m10, c10, by omega, by go_num, bZ9, bP9, bR9, kC9, kA9, hk9, hg9⟩, by simp only [intOf]; omega⟩
                        · have i2 : ¬ (D : Int) < (j : Int) + 1 := by omega
                          have hDj : j < D := by omega
                          rw [Nat.min_eq_left (by omega)] at bZ
                          have hmx : max j D = max (j + 1) D := by omega
                          rw [hmx] at kN
                          have HMX := hid hmx
                          have hb0 : (T : Int) - ((j : Int) + 1) = (T : Int) - (j : Int) - 1 := by omega
                          rw [hb0] at kB
                          clear hb0 hmx
                          go_wp2
                          go_loopw [20] (fun i wr => ∃ k : Nat, k ≤ u.length ∧ i = .int .i64 (k : Int) ∧ WinsAt wr GW ws.length (fun s => raceW u ws F T m s j + raceK u ws ((F + j) % ws.length) (chooseI ((T : Int) - j - 1) ((m : Int) - 1)) s k) ∧ Blk wr R2 60 [.slice (some ⟨GW, 0, none⟩) ws.length ws.length, .slice N1 N2 N3, .slice A1 m1 c1] ∧ Blk wr w.heap.size 60 [.slice none 0 0, .slice none 0 0, .slice none 0 0] ∧ IsNatF wr (.slice N1 N2 N3) (noneP T D m (max (j + 1) D)) ∧ IsNatF wr (.slice A1 m1 c1) (chooseI T m * m) ∧ IsNatF wr (.slice B7 n7 d7) (chooseI ((T : Int) - j - 1) ((m : Int) - 1)) ∧ Kept2 GW R2 w6 wr ∧ Grow w wr) (fun i _ => u.length - (intOf i).toNat)
                          case atStart => exact ⟨0, Nat.zero_le _, rfl, by simpa [raceK] using bZ, bP, bR, kN, kA, kB, hk2, hg⟩
                          case round =>
                            clear bZ bP bR kN kA kB hk2 hg
                            obtain ⟨k, hk, rfl, bZ, bP, bR, kN, kA, kB, hk2, hg⟩ := hrel
                            by_cases hlk : k < u.length
                            · obtain ⟨ad, hA, _, hx⟩ := (r1.grow hg).int hlk
                              obtain rfl := hA
                              obtain ⟨u0, u4⟩ := OK.out.hu.at_ hlk
                              have i4 : (0 : Int) ≤ (k : Int) := by omega
                              have i3 : (k : Int) < (u.length : Int) := by omega
                              obtain ⟨s0, hs0⟩ : ∃ s0, s0 = (F + j) % ws.length := ⟨_, rfl⟩
                              have hs0l : s0 < ws.length := by rw [hs0]; exact Nat.mod_lt _ (by omega)
                              have e1 : ((F : Int) + ((j : Int) + 1) - 1) % (ws.length : Int) = (s0 : Int) := by rw [hs0, show (F : Int) + ((j : Int) + 1) - 1 = ((F + j : Nat) : Int) by omega]; simp
                              have HS0 := hid hs0
                              have WI := hid (winner_any _ ws s0 (k : Int) wr (HR.out.grow hg) (by omega) (by omega))
                              clear hs0
                              rcases winI_ask ws s0 (k : Int) with ⟨h1, h2, h3⟩ | ⟨h1, h2⟩
                              · obtain ⟨p, hwin⟩ := Int.eq_ofNat_of_zero_le h2
                                have hpl : p < ws.length := by omega
                                have HWN := hid hwin
                                rw [hwin] at WI
                                clear hwin h1 h2 h3
                                go_wp2_with fail
                                refine WI.out.mono ?_
                                rintro e w14 ⟨rfl, rfl⟩
                                obtain ⟨A3, m3, c3, hc0, k0, hf0, hGl⟩ := bZ.at_ hpl
                                have sm := race_small OK.out.hu OK.out.h34 ws (first := F) (m := m) (s := p) (t := j) (k := k) (N := T) (by omega) hlt hlk
                                have p0 := bP.cell 0
                                simp only [List.getElem?_cons_zero] at p0
                                have hpi : (p : Int) < (ws.length : Int) := by omega
                                have hp0 : (0 : Int) ≤ (p : Int) := by omega
                                rw [HS0.out.symm] at sm
                                have k0 : IsNatF wr (.slice A3 m3 c3) (raceW u ws F T m p j + raceK u ws s0 (chooseI ((T : Int) - j - 1) ((m : Int) - 1)) p k) := by rw [HS0.out]; exact k0
                                obtain ⟨sm1, sm2, sm3⟩ := sm
                                have NA := hid (fun W => nat_any (u[k]'hlk) W u0 (by omega))
                                have eg : u.getD k 0 = u[k] := by rw [List.getD_eq_getElem?_getD, List.getElem?_eq_getElem hlk]; rfl
                                rw [eg] at sm3
                                have PR := hid (fun va vb W h1 h2 => times_any va vb _ (u[k]'hlk) W h1 h2 sm2 (small_lit6 (by omega)))
                                have SU := hid (fun va vb W h1 h2 => add_any va vb _ _ W h1 h2 sm1 sm3)
                                have K0 := hid k0
                                have HFP := hid (show raceW u ws F T m p j + raceK u ws s0 (chooseI ((T : Int) - j - 1) ((m : Int) - 1)) p (k + 1) = raceW u ws F T m p j + raceK u ws s0 (chooseI ((T : Int) - j - 1) ((m : Int) - 1)) p k + chooseI ((T : Int) - j - 1) ((m : Int) - 1) * (u[k]'hlk) from by rw [raceK_hit HWN.out, eg, Int.add_assoc])
                                have HFS := hid (fun (s : Nat) (hs : s ≠ p) => raceK_skip (u := u) (b := chooseI ((T : Int) - j - 1) ((m : Int) - 1)) (s := s) (show winI ws s0 (k : Int) ≠ s by rw [HWN.out]; omega))
                                clear eg
                                have HF0 := hid hf0
                                have KEEP := hid (fun W (hg : Grow wr W) => (⟨hg, hg.cell_some p0, hg.cell_some hc0, hg.cell_some hx⟩ : Grow wr W ∧ W.cell? ⟨R2, 0, none⟩ = some (.slice (some ⟨GW, 0, none⟩) ws.length ws.length) ∧ W.cell? ⟨GW, p, none⟩ = some (.slice A3 m3 c3) ∧ W.cell? (ad.add k) = some (.int .i64 u[k])))
                                go_wp2_with fail
                                clear sm1 sm2 sm3 k0 hf0 p0 hc0 hx
                                refine anyBut_region 17 (S := fun W => Grow wr W ∧ W.cell? ⟨R2, 0, none⟩ = some (.slice (some ⟨GW, 0, none⟩) ws.length ws.length) ∧ W.cell? ⟨GW, p, none⟩ = some (.slice A3 m3 c3) ∧ W.cell? (ad.add k) = some (.int .i64 u[k])) (by kernel_rfl) (KEEP.out _ (Grow.refl _).drew) (fun hQ hHeld => ?_)
                                refine AnyBut.take 0 (v := ?_) (by rfl) (by kernel_rfl) (by kernel_rfl) (by kernel_rfl) (by kernel_rfl) hQ (by rfl) (fun w hS => ?_) hHeld ?_
                                rotate_left
                                · (try dsimp only at hS); go_simp; (try with_reducible rfl)
                                (try simp only [Act.put])
                                refine AnyBut.take 1 (v := ?_) (by rfl) (by kernel_rfl) (by kernel_rfl) (by kernel_rfl) (by kernel_rfl) hQ (by rfl) (fun w hS => ?_) hHeld ?_
                                rotate_left
                                · (try dsimp only at hS); go_simp; (try with_reducible rfl)
                                (try simp only [Act.put])
                                refine AnyBut.take 2 (v := ?_) (by rfl) (by kernel_rfl) (by kernel_rfl) (by kernel_rfl) (by kernel_rfl) hQ (by rfl) (fun w hS => ?_) hHeld ?_
                                rotate_left
                                · (try dsimp only at hS); go_simp; (try with_reducible rfl)
                                (try simp only [Act.put])
                                refine AnyBut.take 3 (v := ?_) (by rfl) (by kernel_rfl) (by kernel_rfl) (by kernel_rfl) (by kernel_rfl) hQ (by rfl) (fun w hS => ?_) hHeld ?_
                                rotate_left
                                · (try dsimp only at hS); go_simp; (try with_reducible rfl)
                                (try simp only [Act.put])
                                refine AnyBut.take 4 (v := ?_) (by rfl) (by kernel_rfl) (by kernel_rfl) (by kernel_rfl) (by kernel_rfl) hQ (by rfl) (fun w hS => ?_) hHeld ?_
                                rotate_left
                                · (try dsimp only at hS); go_simp; (try with_reducible rfl)
                                (try simp only [Act.put])
                                refine AnyBut.take 5 (v := ?_) (by rfl) (by kernel_rfl) (by kernel_rfl) (by kernel_rfl) (by kernel_rfl) hQ (by rfl) (fun w hS => ?_) hHeld ?_
                                rotate_left
                                · (try dsimp only at hS); go_simp; (try with_reducible rfl)
                                (try simp only [Act.put])
                                refine AnyBut.take 6 (v := ?_) (by rfl) (by kernel_rfl) (by kernel_rfl) (by kernel_rfl) (by kernel_rfl) hQ (by rfl) (fun w hS => ?_) hHeld ?_
                                rotate_left
                                · (try dsimp only at hS); go_simp; (try with_reducible rfl)
                                (try simp only [Act.put])
                                refine AnyBut.take 7 (v := ?_) (by rfl) (by kernel_rfl) (by kernel_rfl) (by kernel_rfl) (by kernel_rfl) hQ (by rfl) (fun w hS => ?_) hHeld ?_
                                rotate_left
                                · (try dsimp only at hS); go_simp; (try with_reducible rfl)
                                (try simp only [Act.put])
                                refine AnyBut.take 8 (v := ?_) (by rfl) (by kernel_rfl) (by kernel_rfl) (by kernel_rfl) (by kernel_rfl) hQ (by rfl) (fun w hS => ?_) hHeld ?_
                                rotate_left
                                · (try dsimp only at hS); go_simp; (try with_reducible rfl)
                                (try simp only [Act.put])
                                refine AnyBut.take 9 (v := ?_) (by rfl) (by kernel_rfl) (by kernel_rfl) (by kernel_rfl) (by kernel_rfl) hQ (by rfl) (fun w hS => ?_) hHeld ?_
                                rotate_left
                                · (try dsimp only at hS); go_simp; (try with_reducible rfl)
                                (try simp only [Act.put])
                                refine AnyBut.take 10 (v := ?_) (by rfl) (by kernel_rfl) (by kernel_rfl) (by kernel_rfl) (by kernel_rfl) hQ (by rfl) (fun w hS => ?_) hHeld ?_
                                rotate_left
                                · (try dsimp only at hS); go_simp; (try with_reducible rfl)
                                (try simp only [Act.put])
                                refine AnyBut.take 11 (v := ?_) (by rfl) (by kernel_rfl) (by kernel_rfl) (by kernel_rfl) (by kernel_rfl) hQ (by rfl) (fun w hS => ?_) hHeld ?_
                                rotate_left
                                · (try dsimp only at hS); go_simp; (try with_reducible rfl)
                                (try simp only [Act.put])
                                refine AnyBut.take 12 (v := ?_) (by rfl) (by kernel_rfl) (by kernel_rfl) (by kernel_rfl) (by kernel_rfl) hQ (by rfl) (fun w hS => ?_) hHeld ?_
                                rotate_left
                                · (try dsimp only at hS); go_simp; (try with_reducible rfl)
                                (try simp only [Act.put])
                                refine AnyBut.one 13 (by kernel_rfl) (by rfl) (fun K hK => ?_)
                                go_simp
                                refine (NA.out _).mono ?_
                                rintro e wA ⟨vA, rfl, kU, gA0⟩
                                have gA := (Grow.refl wr).drew.trans gA0
                                obtain ⟨A8, m8, c8, rfl⟩ := kU.open_
                                refine hK.out _ _ (KEEP.out _ gA) (fun hHeld => ?_)
                                (try simp only [Act.put])
                                refine AnyBut.one 14 (by kernel_rfl) (by rfl) (fun K hK => ?_)
                                go_simp
                                refine (PR.out _ _ _ (kB.grow gA).1 kU.1).mono ?_
                                rintro e wB ⟨vB, rfl, kB2, gB0⟩
                                have gB := gA.trans gB0
                                obtain ⟨A9, m9, c9, rfl⟩ := kB2.open_
                                refine hK.out _ _ (KEEP.out _ gB) (fun hHeld => ?_)
                                (try simp only [Act.put])
                                refine AnyBut.one 15 (by kernel_rfl) (by rfl) (fun K hK => ?_)
                                go_simp
                                refine (SU.out _ _ _ (K0.out.grow gB).1 kB2.1).mono ?_
                                rintro e wC ⟨vC, rfl, kC, gC0⟩
                                have gC := gB.trans gC0
                                obtain ⟨A10, m10, c10, rfl⟩ := kC.open_
                                refine hK.out _ _ (KEEP.out _ gC) (fun hHeld => ?_)
                                (try simp only [Act.put])
                                refine AnyBut.take 16 (v := ?_) (by rfl) (by kernel_rfl) (by kernel_rfl) (by kernel_rfl) (by kernel_rfl) hQ (by rfl) (fun w hS => ?_) hHeld ?_
                                rotate_left
                                · (try dsimp only at hS); go_simp; (try with_reducible rfl)
                                (try simp only [Act.put])
                                have hcZ := hHeld.2.2.1
                                have hfZ := (gC.frozen (p := ⟨GW, p, none⟩) hGl).trans HF0.out
                                refine AnyBut.last (by kernel_rfl) (by rfl) (by kernel_rfl) (fun K hK => ?_)
                                go_simp
                                refine hK.out _ _ ?_
                                refine NoPanic.normal ?_
                                have bZC := bZ.grow gC
                                obtain ⟨vsC, bWC⟩ := bZC.blk
                                have bP9 := (bP.grow gC).far (p := ⟨GW, p, none⟩) hPG (.slice A10 m10 c10)
                                have bR9 := (bR.grow gC).far (p := ⟨GW, p, none⟩) hGne.symm (.slice A10 m10 c10)
                                have hk9 := (hk2.grow gC).set1 p (.slice A10 m10 c10)
                                have kN9 := (kN.grow gC).setFar (p := ⟨GW, p, none⟩) bWC (by decide) (.slice A10 m10 c10)
                                have kA9 := (kA.grow gC).setFar (p := ⟨GW, p, none⟩) bWC (by decide) (.slice A10 m10 c10)
                                have kB9 := (kB.grow gC).setFar (p := ⟨GW, p, none⟩) bWC (by decide) (.slice A10 m10 c10)
                                have hg9 := (hg.trans gC).set (p := ⟨GW, p, none⟩) hGW (.slice A10 m10 c10)
                                have bZ9 : WinsAt (wC.setCell ⟨GW, p, none⟩ (.slice A10 m10 c10)) GW ws.length (fun s => raceW u ws F T m s j + raceK u ws ((F + j) % ws.length) (chooseI ((T : Int) - j - 1) ((m : Int) - 1)) s (k + 1)) :=
                                  WinsAt.set bZC (by rw [← HS0.out, HFP.out]; exact kC) (fun s hs => by rw [← HS0.out, HFS.out s hs])
                                clear bZC bWC bZ bP bR kN kA kB hg hcZ hfZ hk2
                                go_wp2
                                exact ⟨⟨k + 1, by omega, by go_num, bZ9, bP9, bR9, kN9, kA9, kB9, hk9, hg9⟩, by simp only [intOf]; omega⟩
                              · have HSK := hid (fun (s : Nat) => raceK_skip (u := u) (b := chooseI ((T : Int) - j - 1) ((m : Int) - 1)) (s := s) (show winI ws s0 (k : Int) ≠ s by omega))
                                rw [h2] at WI
                                clear h1 h2
                                go_wp2_with fail
                                refine WI.out.mono ?_
                                rintro e w14 ⟨rfl, rfl⟩
                                go_wp2
                                refine ⟨⟨k + 1, by omega, by go_num, ?_, bP, bR, kN, kA, kB, hk2, hg⟩, by simp only [intOf]; omega⟩
                                have h := bZ
                                rw [← HS0.out] at h ⊢
                                simp only [HSK.out]
                                exact h
                            · obtain rfl : k = u.length := by omega
                              have bZ2 : WinsAt wr GW ws.length (fun s => raceW u ws F T m s (min (j + 1) D)) := by rw [Nat.min_eq_left (by omega)]; exact bZ
                              clear bZ
                              go_wp2
                              exact ⟨⟨j + 1, N1, N2, N3, by omega, by go_num, bZ2, bP, bR, kN, kA, hk2, hg⟩, by simp only [intOf]; omega⟩
                      · obtain rfl : j = T := by omega
                        rw [Nat.min_eq_right hD] at bZ
                        rw [Nat.max_eq_left hD, noneP_end _ _ _ hm1] at kN
                        have q0 := bR.cell 0
                        have q1 := bR.cell 1
                        have q2 := bR.cell 2
                        have p0 := bP.cell 0
                        have p1 := bP.cell 1
                        have p2 := bP.cell 2
                        simp only [List.getElem?_cons_zero, List.getElem?_cons_succ] at q0 q1 q2 p0 p1 p2
                        have f0 := bR.free 0
                        have f1 := bR.free 1
                        have f2 := bR.free 2
                        have FIN := hid (race_of_wins (f' := raceF u ws F D) (er := 0) (by omega) bZ (fun s => by unfold raceF; rw [HMM.out, if_neg (by have := HZ.out; omega), HT.out]; simp) kN kA bR hg)
                        have RES2 := hid (fun e w' (hrr : RaceRes w ws.length (raceF u ws F D) (chooseI ((j : Int) - D) m * m) (chooseI j m * m) 0 e w') => RES.out e w' (by
                          have e1 : raceN u ws D = chooseI ((j : Int) - D) m * m := by unfold raceN; rw [HMM.out, if_neg (by have := HZ.out; omega), HT.out]
                          have e2 : raceA u ws = chooseI j m * m := by unfold raceA; rw [HMM.out, if_neg (by have := HZ.out; omega), HT.out]
                          rw [e1, e2]; exact hrr))
                        clear bZ bP bR kN kA hg hk2 kT
                        go_wp2
                        refine bodyPost_ret (v := .tuple #[.agg #[.slice (some ⟨GW, 0, none⟩) ws.length ws.length, .slice N1 N2 N3, .slice A1 m1 c1], .int .i64 0]) (by simp [results, Try.results42, go_sem, q0, q1, q2]) rfl (RES2.out _ _ FIN.out)
end Go.Proofs.Ytgphdaipgodjgaa
