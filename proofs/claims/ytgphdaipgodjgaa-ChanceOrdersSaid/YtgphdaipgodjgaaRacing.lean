/-
  The walk of Racing.
-/
import Derived.Test.YtgphdaipgodjgaaRaceW
import Derived.Test.YtgphdaipgodjgaaLast
namespace Go.Proofs.Ytgphdaipgodjgaa
open Go.RowKit

/-- What the walk of the loops needs of the lists. -/
structure RaceOk (u : List Int) (ws : List (List Int)) : Prop where
  hu : Within 0 4 u
  h0 : 0 < u.length
  h34 : u.length ≤ 34
  s0 : 0 < ws.length
  s4 : ws.length ≤ 4

/-- The naturals that a race has so far. -/
def WinsAt (w : World) (GW n : Nat) (f : Nat → Int) : Prop := ∃ vs : List Value, vs.length = n ∧ Blk w GW 23 vs ∧ NatsAt w vs f
theorem WinsAt.grow {w w' : World} {GW n : Nat} {f : Nat → Int} (h : WinsAt w GW n f) (g : Grow w w') : WinsAt w' GW n f := by
  obtain ⟨vs, h1, h2, h3⟩ := h
  exact ⟨vs, h1, h2.grow g, h3.grow g⟩
theorem WinsAt.at_ {w : World} {GW n : Nat} {f : Nat → Int} (h : WinsAt w GW n f) {i : Nat} (hi : i < n) : ∃ A m c, w.cell? ⟨GW, i, none⟩ = some (.slice A m c) ∧ IsNatF w (.slice A m c) (f i) ∧ w.frozen? ⟨GW, i, none⟩ = false ∧ GW < w.heap.size := by
  obtain ⟨vs, h1, h2, h3⟩ := h
  have hv : vs[i]? = some vs[i] := List.getElem?_eq_getElem (by omega)
  have k := h3 i _ hv
  obtain ⟨A, m, c, e⟩ := k.open_
  rw [e] at k hv
  exact ⟨A, m, c, by rw [h2.cell, hv], k, h2.free i, h2.lt⟩
theorem WinsAt.set {w : World} {GW n : Nat} {f f' : Nat → Int} (h : WinsAt w GW n f) {i : Nat} {u : Value} (hu : IsNatF w u (f' i)) (hf : ∀ j, j ≠ i → f' j = f j) : WinsAt (w.setCell ⟨GW, i, none⟩ u) GW n f' := by
  obtain ⟨vs, h1, h2, h3⟩ := h
  exact ⟨vs.set i u, by rw [List.length_set]; exact h1, h2.set i u, NatsAt.set h3 h2 hu hf⟩
theorem WinsAt.blk {w : World} {GW n : Nat} {f : Nat → Int} (h : WinsAt w GW n f) : ∃ vs, Blk w GW 23 vs := by
  obtain ⟨vs, _, h2, _⟩ := h
  exact ⟨vs, h2⟩
theorem WinsAt.far {w : World} {GW n : Nat} {f : Nat → Int} (h : WinsAt w GW n f) {R : Nat} {e : TypeId} {cs : List Value} (hb : Blk w R e cs) (i : Nat) (u : Value) (hne : R ≠ GW) (he : 3 ≠ e := by decide) : WinsAt (w.setCell ⟨R, i, none⟩ u) GW n f := by
  obtain ⟨vs, h1, h2, h3⟩ := h
  exact ⟨vs, h1, h2.far (p := ⟨R, i, none⟩) hne.symm u, NatsAt.setFar (p := ⟨R, i, none⟩) h3 hb he u⟩
theorem race_of_wins {w W : World} {GW n : Nat} {f f' : Nat → Int} {nn aa er : Int} {v2 v3 a b c : Value} (hn : n ≤ 100) (hW : WinsAt W GW n f) (hf : ∀ s, f' s = f s) (h2 : IsNatF W v2 nn) (h3 : IsNatF W v3 aa) (hb : Blk W w.heap.size 60 [a, b, c]) (hg : Grow w W) :
    RaceRes w n f' nn aa er (.returned (.tuple #[.agg #[.slice (some ⟨GW, 0, none⟩) n n, v2, v3], .int .i64 er])) (((W.setCell ⟨w.heap.size, 0, none⟩ (.slice (some ⟨GW, 0, none⟩) n n)).setCell ⟨w.heap.size, 1, none⟩ v2).setCell ⟨w.heap.size, 2, none⟩ v3) := by
  obtain ⟨vs, k1, k2, k3⟩ := hW
  exact race_fin hn k2 k1 (fun i v hv => by rw [hf]; exact k3 i v hv) h2 h3 hb hg
theorem raceK_skip {u : List Int} {ws : List (List Int)} {seat k : Nat} {b : Int} {s : Nat} (h : winI ws seat (k : Int) ≠ s) : raceK u ws seat b s (k + 1) = raceK u ws seat b s k := by
  rw [raceK, if_neg h, Int.add_zero]
theorem raceK_hit {u : List Int} {ws : List (List Int)} {seat k : Nat} {b : Int} {s : Nat} (h : winI ws seat (k : Int) = s) : raceK u ws seat b s (k + 1) = raceK u ws seat b s k + b * u.getD k 0 := by
  rw [raceK, if_pos h]

set_option maxRecDepth 100000 in
set_option maxHeartbeats 16000000 in
theorem Racing_ok (v1 v2 : Value) (u : List Int) (ws : List (List Int)) (first draws : Int) (w : World) (h1 : IsInts w v1 u) (h2 : IsRowsI w v2 ws) (he : unErr u = 0) (ok : RaceOk u ws) :
    Calls Try.prog 41 #[v1, v2, .int .i64 first, .int .i64 draws] w (RaceOf w u ws first draws) := by
  have hun := fun W (hg : Grow w W) => unseen_any v1 u W (h1.grow hg)
  rw [he] at hun
  have hall := fun W (hg : Grow w W) => all_any v1 u W (h1.grow hg) (fun z hz => by have := ok.hu z hz; omega) (by have := ok.h34; omega)
  have hsum := sum_un he
  have hfin : ∀ er v wf, raceErr u ws first draws = er → er ≠ 0 → v = .agg #[.slice none 0 0, .slice none 0 0, .slice none 0 0] → Grow w wf → RaceOf w u ws first draws (.returned (.tuple #[v, .int .i64 er])) wf := fun er v wf he hne hv hg => by
    subst hv
    unfold RaceOf
    rw [if_neg (by rw [he]; exact hne), if_neg (by rw [he]; exact hne), if_neg (by rw [he]; exact hne), he]
    exact ⟨_, rfl, IsRace.nil, hg⟩
  have HEW := hid (fun (h : waitErr u.length ws ≠ 0) => (show raceErr u ws first draws = waitErr u.length ws from by
    unfold raceErr
    rw [if_neg (by omega), if_neg (by have := ok.s0; omega), if_neg (by have := ok.s4; omega), if_pos h]))
  have HER := hid (fun (h : waitErr u.length ws = 0) (h' : first < 0 ∨ (ws.length : Int) ≤ first ∨ draws < 0 ∨ sumI u < draws) => (show raceErr u ws first draws = 2 from by
    unfold raceErr
    rw [if_neg (by omega), if_neg (by have := ok.s0; omega), if_neg (by have := ok.s4; omega), if_neg (by omega), if_pos h']))
  have HE0 := hid (fun (h : waitErr u.length ws = 0) (h' : ¬ (first < 0 ∨ (ws.length : Int) ≤ first ∨ draws < 0 ∨ sumI u < draws)) => (show raceErr u ws first draws = 0 from by
    unfold raceErr
    rw [if_neg (by omega), if_neg (by have := ok.s0; omega), if_neg (by have := ok.s4; omega), if_neg (by omega), if_neg h']))
  have HF := hid hfin
  have HU := hid hun
  have HA := hid hall
  have OK := hid ok
  obtain ⟨T, hT⟩ := Int.eq_ofNat_of_zero_le hsum.1
  rw [hT] at HA
  have HT := hid hT
  have ht : T ≤ 136 := by omega
  have g0 : Grow w (w.alloc (.cells #[.slice none 0 0, .slice none 0 0, .slice none 0 0] 60)) := (Grow.refl w).alloc _
  have I1 := hid h1
  obtain ⟨A, c, rfl, hc1, hm1, r1⟩ := h1
  obtain ⟨B, d, rfl, hc2, hm2⟩ := h2.open_
  have HR := hid h2
  unfold maxLen at hm1 hm2
  have a0 := ok.h0
  have a1 := ok.h34
  have a2 := ok.s0
  have a3 := ok.s4
  have n0 : ((ws.length : Int) == 0) = false := beq_eq_false_iff_ne.2 (by omega)
  have n0' : (ws.length == 0) = false := beq_eq_false_iff_ne.2 (by omega)
  clear hun hall hsum he hfin ok hT h2
  go_enter Try.func41, Try.ntmps41
  go_wp2_with fail
  refine (HU.out _ g0).mono ?_
  rintro e w1 ⟨rfl, hg1⟩
  have bR := race_block hg1
  have gW := g0.trans hg1
  clear hg1 g0
  go_wp2_with (at_make; refine wpList_make_blk w _ rfl (.tmp 45) (.tmp 45) _ rfl 4 (.bool false) 1 Try.underlying66 infoBool rfl _ _ _ _ u.length rfl rfl (by omega) (by omega) (by omega) (by omega) gW ?_; intro Ga w2 bA hGa hGa' hg2 hg2')
  have bR2 := bR.grow hg2'
  have hne : Ga ≠ w.heap.size := by have := bR.lt; omega
  have bA2 : Blk w2 Ga 4 (bools (List.replicate u.length false)) := by simpa [bools] using bA
  clear gW bR hg2' bA hGa'
  go_loopw [49] (fun i wr => ∃ (s : Nat) (bs : List Bool), s ≤ ws.length ∧ i = .int .i64 (s : Int) ∧ Marks ws s [] u.length bs ∧ waitErr u.length ws = waitErr u.length (ws.drop s) ∧ Blk wr Ga 4 (bools bs) ∧ Blk wr w.heap.size 60 [.slice none 0 0, .slice none 0 0, .slice none 0 0] ∧ Grow w wr) (fun i _ => ws.length - (intOf i).toNat)
  case atStart => exact ⟨0, _, Nat.zero_le _, rfl, Marks.start ws _, rfl, bA2, bR2, hg2⟩
  case round =>
    clear bA2 bR2 hg2
    obtain ⟨s, bs, hs, rfl, hmk, hwe, bA, bR, hg⟩ := hrel
    have HMK := hid hmk
    have HWE := hid hwe
    clear hmk hwe
    by_cases hlt : s < ws.length
    · have i1 : (s : Int) < (ws.length : Int) := by omega
      have i0 : (0 : Int) ≤ (s : Int) := by omega
      obtain ⟨ad, B, n, d, rfl, hb, hx0, hi, rfl⟩ := HR.out.at_ hlt
      obtain ⟨l, hl⟩ : ∃ l, l = ws[s] := ⟨_, rfl⟩
      have HL := hid hl
      rw [← hl] at hi hx0
      have hri := rising_any _ l u.length wr (hi.grow hg)
      have hx := hg.cell_some hx0
      have hwd := waitErr_drop (many := u.length) hlt
      rw [← HWE.out, ← hl] at hwd
      have HWD := hid hwd
      clear hl hwd hx0
      by_cases he : risErr u.length (-1) l = 0
      · rw [he] at hri
        have HRI := hid hri
        have HE := hid he
        obtain ⟨C, cc, ee, hC1, hC2, hrl⟩ := id hi
        injection ee with e1 _ e3
        subst e1 e3
        unfold maxLen at hC2
        have HW2 := hid (HWD.out.trans (if_pos he))
        clear he hri hi
        go_wp2_with fail
        refine HRI.out.mono ?_
        rintro e w3 ⟨rfl, rfl⟩
        go_wp2_with fail
        go_loopw [63] (fun i wq => ∃ (j : Nat) (bs : List Bool), j ≤ l.length ∧ i = .int .i64 (j : Int) ∧ Marks ws s (l.take j) u.length bs ∧ Blk wq Ga 4 (bools bs) ∧ Blk wq w.heap.size 60 [.slice none 0 0, .slice none 0 0, .slice none 0 0] ∧ Grow w wq) (fun i _ => l.length - (intOf i).toNat)
        case atStart => exact ⟨0, bs, Nat.zero_le _, rfl, HMK.out, bA, bR, hg⟩
        case round =>
          clear bA bR hg hx
          obtain ⟨j, bs, hj, rfl, hmk, bA, bR, hg⟩ := hrel
          have HMK := hid hmk
          clear hmk
          by_cases hlj : j < l.length
          · obtain ⟨ad2, rfl, _, hx2⟩ := (hrl.grow hg).int hlj
            have hin := ris_in HE.out l[j] (List.getElem_mem hlj)
            have hlen : l[j].toNat < bs.length := by have := HMK.out.1; omega
            have q1 := bA.cell_bool hlen
            have f1 := bA.free l[j].toNat
            have hmk2 := hid (by
              have h := HMK.out.kind (z := l[j]) hin.1 hin.2.1
              rw [← List.take_succ_eq_append_getElem hlj] at h
              exact h : Marks ws s (l.take (j + 1)) u.length (bs.set l[j].toNat true))
            have z0 : 0 ≤ l[j] := hin.1
            have z1 : l[j] < (u.length : Int) := hin.2.1
            clear hin
            go_wp2
            exact ⟨⟨j + 1, _, by omega, by go_num, hmk2.out, bA.set_bool _ true, bR.far (by simp; omega) _, hg.set hGa _⟩, by simp only [intOf]; omega⟩
          · have hmk2 := hid (by
              have h := HMK.out
              rw [List.take_of_length_le (by omega), HL.out] at h
              exact h.seat hlt : Marks ws (s + 1) [] u.length bs)
            go_wp2
            exact ⟨⟨s + 1, bs, by omega, by go_num, hmk2.out, HW2.out, bA, bR, hg⟩, by simp only [intOf]; omega⟩
      · have HE := hid (HEW.out (by rw [HWD.out, if_neg he]; exact he))
        have HW2 := hid (HWD.out.trans (if_neg he))
        have hne2 : (risErr u.length (-1) l != 0) = true := by simp [he]
        generalize risErr u.length (-1) l = n2 at *
        have HN := hid he
        have HRI := hid hri
        have q0 := bR.cell 0
        have q1 := bR.cell 1
        have q2 := bR.cell 2
        have f0 := bR.free 0
        have f1 := bR.free 1
        have f2 := bR.free 2
        simp only [List.getElem?_cons_zero, List.getElem?_cons_succ] at q0 q1 q2
        have bg := ((hg.set (p := ⟨w.heap.size, 0, none⟩) (Nat.le_refl _) (.slice none 0 0)).set (p := ⟨w.heap.size, 1, none⟩) (Nat.le_refl _) (.slice none 0 0)).set (p := ⟨w.heap.size, 2, none⟩) (Nat.le_refl _) (.slice none 0 0)
        clear he hri
        go_wp2_with fail
        refine HRI.out.mono ?_
        rintro e w3 ⟨rfl, rfl⟩
        go_wp2
        refine bodyPost_ret (v := .tuple #[.agg #[.slice none 0 0, .slice none 0 0, .slice none 0 0], .int .i64 n2]) (by simp [results, Try.results41, go_sem, q0, q1, q2]) rfl (HF.out n2 _ _ (HE.out.trans HW2.out) HN.out rfl bg)
    · obtain rfl : s = ws.length := by omega
      have hw0 : waitErr u.length ws = 0 := by rw [HWE.out, List.drop_length]; rfl
      have HW0 := hid hw0
      have HM := hid (fun k hk => Marks.all HMK.out (k := k) hk)
      have hbl : bs.length = u.length := HMK.out.1
      have HBL := hid hbl
      have q0 := bR.cell 0
      have q1 := bR.cell 1
      have q2 := bR.cell 2
      have f0 := bR.free 0
      have f1 := bR.free 1
      have f2 := bR.free 2
      simp only [List.getElem?_cons_zero, List.getElem?_cons_succ] at q0 q1 q2
      have bg := ((hg.set (p := ⟨w.heap.size, 0, none⟩) (Nat.le_refl _) (.slice none 0 0)).set (p := ⟨w.heap.size, 1, none⟩) (Nat.le_refl _) (.slice none 0 0)).set (p := ⟨w.heap.size, 2, none⟩) (Nat.le_refl _) (.slice none 0 0)
      clear hw0 hbl
      go_wp2_with fail
      refine (HA.out _ hg).mono ?_
      rintro e w3 ⟨rfl, rfl⟩
      by_cases b1 : first < 0
      · have HE := hid (HER.out HW0.out (.inl b1))
        go_wp2
        refine bodyPost_ret (v := .tuple #[.agg #[.slice none 0 0, .slice none 0 0, .slice none 0 0], .int .i64 2]) (by simp [results, Try.results41, go_sem, q0, q1, q2]) rfl (HF.out 2 _ _ HE.out (by omega) rfl bg)
      · by_cases b2 : (ws.length : Int) ≤ first
        · have HE := hid (HER.out HW0.out (.inr (.inl b2)))
          go_wp2
          refine bodyPost_ret (v := .tuple #[.agg #[.slice none 0 0, .slice none 0 0, .slice none 0 0], .int .i64 2]) (by simp [results, Try.results41, go_sem, q0, q1, q2]) rfl (HF.out 2 _ _ HE.out (by omega) rfl bg)
        · by_cases b3 : draws < 0
          · have HE := hid (HER.out HW0.out (.inr (.inr (.inl b3))))
            go_wp2
            refine bodyPost_ret (v := .tuple #[.agg #[.slice none 0 0, .slice none 0 0, .slice none 0 0], .int .i64 2]) (by simp [results, Try.results41, go_sem, q0, q1, q2]) rfl (HF.out 2 _ _ HE.out (by omega) rfl bg)
          · by_cases b4 : (T : Int) < draws
            · have HE := hid (HER.out HW0.out (.inr (.inr (.inr (by rw [HT.out]; exact b4)))))
              go_wp2
              refine bodyPost_ret (v := .tuple #[.agg #[.slice none 0 0, .slice none 0 0, .slice none 0 0], .int .i64 2]) (by simp [results, Try.results41, go_sem, q0, q1, q2]) rfl (HF.out 2 _ _ HE.out (by omega) rfl bg)
            · have HE := hid (HE0.out HW0.out (by rw [HT.out]; omega))
              obtain ⟨F, rfl⟩ := Int.eq_ofNat_of_zero_le (show 0 ≤ first by omega)
              obtain ⟨D, rfl⟩ := Int.eq_ofNat_of_zero_le (show 0 ≤ draws by omega)
              have hF : F < ws.length := by omega
              have hD : D ≤ T := by omega
              clear b1 b2 b3 b4 bg q0 q1 q2 f0 f1 f2 HEW HER HE0
              go_wp2
              go_loop [19, 93] (fun m i => ∃ k : Nat, k ≤ u.length ∧ i = .int .i64 (k : Int) ∧ m = .int .i64 (markM u ws k)) (fun _ i => u.length - (intOf i).toNat)
              case atStart => exact ⟨0, Nat.zero_le _, rfl, rfl⟩
              case round =>
                obtain ⟨k, hk, rfl, rfl⟩ := hrel
                obtain ⟨m0, hmb⟩ := markM_le OK.out.hu ws k
                have hsb := (OK.out.hu.take k).sum
                have hlk : (u.take k).length ≤ 34 := by rw [List.length_take]; omega
                have m1 : markM u ws k ≤ 136 := by omega
                have HMB := hid hmb
                clear hmb hsb hlk
                by_cases hlt : k < u.length
                · obtain ⟨ad, rfl, _, hx⟩ := (r1.grow hg).int hlt
                  have hkb : k < bs.length := by rw [HBL.out]; exact hlt
                  have q1 := bA.cell_bool hkb
                  obtain ⟨u0, u4⟩ := OK.out.hu.at_ hlt
                  have i0 : (0 : Int) ≤ (k : Int) := by omega
                  have i1 : (k : Int) < (u.length : Int) := by omega
                  obtain ⟨b, hb⟩ : ∃ b, b = bs[k] := ⟨_, rfl⟩
                  rw [← hb] at q1
                  have HS := hid (show markM u ws (k + 1) = markM u ws k + (if b = true then u[k] else 0) from by
                    rw [markM, hb, HM.out k hkb, List.getD_eq_getElem?_getD, List.getElem?_eq_getElem hlt]; rfl)
                  clear hb hkb
                  cases b
                  · go_wp2
                    exact ⟨⟨k + 1, by omega, by go_num, by rw [HS.out]; simp⟩, by simp only [intOf]; omega⟩
                  · go_wp2
                    exact ⟨⟨k + 1, by omega, by go_num, by rw [HS.out]; simp⟩, by simp only [intOf]; omega⟩
                · obtain rfl : k = u.length := by omega
                  have hmT : markM u ws u.length ≤ T := by
                    have := HMB.out
                    rwa [List.take_length, HT.out] at this
                  obtain ⟨m, hm⟩ := Int.eq_ofNat_of_zero_le m0
                  rw [hm] at m0 m1 hmT ⊢
                  have HMM := hid (show markAll u ws = (m : Int) from hm)
                  have hmT' : m ≤ T := by omega
                  clear hm HMB hmT m0 m1
                  have RES := hid (show ∀ e w', RaceRes w ws.length (raceF u ws F D) (raceN u ws D) (raceA u ws) 0 e w' → RaceOf w u ws F D e w' from fun e w' h => by
                    unfold RaceOf
                    rw [HE.out, if_pos rfl, if_pos rfl, if_pos rfl]
                    exact h)
                  by_cases hz : m = 0
                  · have hmz : ((m : Int) == 0) = true := by simp [hz]
                    have HZ := hid hz
                    clear hz
                    go_wp2_with (at_make; refine wpList_make_blk w _ rfl (.tmp 106) (.tmp 106) _ rfl 23 (.slice none 0 0) 24 Try.underlying58 infoNat rfl _ _ _ _ ws.length rfl rfl (by omega) (by omega) (by omega) (by omega) hg ?_; intro GW w4 bW hGW hGW2 hg4 hg4')
                    have bZ : WinsAt w4 GW ws.length (fun _ => 0) := ⟨_, by simp, bW, NatsAt.zeros fun _ => rfl⟩
                    have bR4 := bR.grow hg4'
                    have hGne : GW ≠ w.heap.size := by have := bR.lt; omega
                    have gP : Grow w4 (w4.alloc (.cells #[.slice (some ⟨GW, 0, none⟩) ws.length ws.length, .slice none 0 0, .slice none 0 0] 60)) := (Grow.refl _).alloc _
                    have bP : Blk (w4.alloc (.cells #[.slice (some ⟨GW, 0, none⟩) ws.length ws.length, .slice none 0 0, .slice none 0 0] 60)) w4.heap.size 60 [.slice (some ⟨GW, 0, none⟩) ws.length ws.length, .slice none 0 0, .slice none 0 0] := Blk.new_at rfl
                    have bZ5 := bZ.grow gP
                    have bR5 := bR4.grow gP
                    have hg5 := hg4.trans gP
                    have hPne : w4.heap.size ≠ w.heap.size := by have := bR4.lt; omega
                    have hPG : w4.heap.size ≠ GW := by have := bW.lt; omega
                    have hPw : w.heap.size ≤ w4.heap.size := hg4.size
                    clear bZ bR4 gP bW hg hg4' hg4 bA bR hGW2
                    generalize w4.alloc (.cells #[.slice (some ⟨GW, 0, none⟩) ws.length ws.length, .slice none 0 0, .slice none 0 0] 60) = w5 at *
                    generalize w4.heap.size = R2 at *
                    refine (natural_any 1 _ (by omega) (by omega)).mono ?_
                    rintro e w6 ⟨vN, rfl, kN, g6⟩
                    obtain ⟨A1, m1, c1, rfl⟩ := kN.open_
                    go_wp2_with fail
                    refine (natural_any 1 _ (by omega) (by omega)).mono ?_
                    rintro e w7 ⟨vA, rfl, kA, g7⟩
                    obtain ⟨A2, m2, c2, rfl⟩ := kA.open_
                    have gg := g6.trans g7
                    have bZ7 := bZ5.grow gg
                    have bR7 := bR5.grow gg
                    have bP7 := bP.grow gg
                    have kN7 := kN.grow g7
                    have hg7 := hg5.trans gg
                    have q0 := bR7.cell 0
                    have q1 := bR7.cell 1
                    have q2 := bR7.cell 2
                    have p0 := bP7.cell 0
                    have p1 := bP7.cell 1
                    have p2 := bP7.cell 2
                    simp only [List.getElem?_cons_zero, List.getElem?_cons_succ] at q0 q1 q2 p0 p1 p2
                    have f0 := bR7.free 0
                    have f1 := bR7.free 1
                    have f2 := bR7.free 2
                    have e1 := bP7.free 1
                    have e2 := bP7.free 2
                    have bP8 := (bP7.set 1 (.slice A1 m1 c1)).set 2 (.slice A2 m2 c2)
                    have bR8 := (bR7.far (p := ⟨R2, 1, none⟩) hPne.symm (.slice A1 m1 c1)).far (p := ⟨R2, 2, none⟩) hPne.symm (.slice A2 m2 c2)
                    have bZ8 := (bZ7.far bP7 1 (.slice A1 m1 c1) hPG).far (bP7.set 1 (.slice A1 m1 c1)) 2 (.slice A2 m2 c2) hPG
                    have kN8 := (kN7.setFar (p := ⟨R2, 1, none⟩) bP7 (by decide) (.slice A1 m1 c1)).setFar (p := ⟨R2, 2, none⟩) (bP7.set 1 (.slice A1 m1 c1)) (by decide) (.slice A2 m2 c2)
                    have kA8 := (kA.setFar (p := ⟨R2, 1, none⟩) bP7 (by decide) (.slice A1 m1 c1)).setFar (p := ⟨R2, 2, none⟩) (bP7.set 1 (.slice A1 m1 c1)) (by decide) (.slice A2 m2 c2)
                    have hg8 := (hg7.set (p := ⟨R2, 1, none⟩) hPw (.slice A1 m1 c1)).set (p := ⟨R2, 2, none⟩) hPw (.slice A2 m2 c2)
                    have FIN := hid (race_of_wins (f' := raceF u ws F D) (er := 0) (by omega) bZ8 (fun s => by unfold raceF; rw [HMM.out, HZ.out]; rfl) kN8 kA8 bR8 hg8)
                    have RES2 := hid (fun e w' h => RES.out e w' (by
                      have e1 : raceN u ws D = 1 := by unfold raceN; rw [HMM.out, HZ.out]; rfl
                      have e2 : raceA u ws = 1 := by unfold raceA; rw [HMM.out, HZ.out]; rfl
                      rw [e1, e2]; exact h))
                    clear bP8 bR8 bZ8 kN8 kA8 hg8 bP7 bR7 bZ7 kN7 hg7 bP bR5 bZ5 kN kA g6 g7 gg hg5
                    go_wp2
                    refine bodyPost_ret (v := .tuple #[.agg #[.slice (some ⟨GW, 0, none⟩) ws.length ws.length, .slice A1 m1 c1, .slice A2 m2 c2], .int .i64 0]) (by simp [results, Try.results41, go_sem, q0, q1, q2]) rfl (RES2.out _ _ FIN.out)
                  · have hmz : ((m : Int) == 0) = false := by simp [hz]
                    have hm1 : 1 ≤ m := by omega
                    have HZ := hid hz
                    clear hz
                    go_wp2_with (at_make; refine wpList_make_blk w _ rfl (.tmp 106) (.tmp 106) _ rfl 23 (.slice none 0 0) 24 Try.underlying58 infoNat rfl _ _ _ _ ws.length rfl rfl (by omega) (by omega) (by omega) (by omega) hg ?_; intro GW w4 bW hGW hGW2 hg4 hg4')
                    have bZ : WinsAt w4 GW ws.length (fun s => raceW u ws F T m s 0) := ⟨_, by simp, bW, NatsAt.zeros fun _ => rfl⟩
                    have bR4 := bR.grow hg4'
                    have bA4 := bA.grow hg4'
                    have hGne : GW ≠ w.heap.size := by have := bR.lt; omega
                    have hGA : GW ≠ Ga := by have := bA.lt; omega
                    have gP : Grow w4 (w4.alloc (.cells #[.slice (some ⟨GW, 0, none⟩) ws.length ws.length, .slice none 0 0, .slice none 0 0] 60)) := (Grow.refl _).alloc _
                    have bP : Blk (w4.alloc (.cells #[.slice (some ⟨GW, 0, none⟩) ws.length ws.length, .slice none 0 0, .slice none 0 0] 60)) w4.heap.size 60 [.slice (some ⟨GW, 0, none⟩) ws.length ws.length, .slice none 0 0, .slice none 0 0] := Blk.new_at rfl
                    have bZ5 := bZ.grow gP
                    have bR5 := bR4.grow gP
                    have bA5 := bA4.grow gP
                    have hg5 := hg4.trans gP
                    have hPne : w4.heap.size ≠ w.heap.size := by have := bR4.lt; omega
                    have hPG : w4.heap.size ≠ GW := by have := bW.lt; omega
                    have hPA : w4.heap.size ≠ Ga := by have := bA4.lt; omega
                    have hPw : w.heap.size ≤ w4.heap.size := hg4.size
                    clear bZ bR4 gP bW hg hg4' hg4 bA bR hGW2 bA4
                    generalize w4.alloc (.cells #[.slice (some ⟨GW, 0, none⟩) ws.length ws.length, .slice none 0 0, .slice none 0 0] 60) = w5 at *
                    generalize w4.heap.size = R2 at *
                    have hs1 := chooseI_small (n := (T : Int)) (m : Int) (by omega)
                    have hs2 := chooseI_small (n := (T : Int) - (D : Int)) (m : Int) (by omega)
                    have hs3 : Small (m : Int) := small_of_lit (by omega)
                    have PR1 := hid (fun va vb W h1 h2 => product_any va vb (chooseI T m) m W h1 h2 hs1 hs3)
                    have PR2 := hid (fun va vb W h1 h2 => product_any va vb (chooseI ((T : Int) - (D : Int)) m) m W h1 h2 hs2 hs3)
                    clear hs1 hs2 hs3
                    refine (choose_all (T : Int) (m : Int) _ (by omega)).mono ?_
                    rintro e w6 ⟨x1, rfl, k1, g6⟩
                    obtain ⟨B1, n1, d1, rfl⟩ := k1.open_
                    go_wp2_with fail
                    refine (natural_any (m : Int) _ (by omega) (by omega)).mono ?_
                    rintro e w7 ⟨x2, rfl, k2, g7⟩
                    obtain ⟨B2, n2, d2, rfl⟩ := k2.open_
                    go_wp2_with fail
                    refine (PR1.out _ _ _ (k1.grow g7).1 k2.1).mono ?_
                    rintro e w8 ⟨x3, rfl, kA, g8⟩
                    obtain ⟨A1, m1, c1, rfl⟩ := kA.open_
                    clear k1 k2
                    go_wp2_with fail
                    refine (choose_all ((T : Int) - (D : Int)) (m : Int) _ (by omega)).mono ?_
                    rintro e w9 ⟨x4, rfl, k4, g9⟩
                    obtain ⟨B4, n4, d4, rfl⟩ := k4.open_
                    go_wp2_with fail
                    refine (natural_any (m : Int) _ (by omega) (by omega)).mono ?_
                    rintro e w10 ⟨x5, rfl, k5, g10⟩
                    obtain ⟨B5, n5, d5, rfl⟩ := k5.open_
                    go_wp2_with fail
                    refine (PR2.out _ _ _ (k4.grow g10).1 k5.1).mono ?_
                    rintro e w11 ⟨x6, rfl, kN, g11⟩
                    obtain ⟨A2, m2, c2, rfl⟩ := kN.open_
                    clear k4 k5
                    have gg := ((g6.trans g7).trans g8).trans ((g9.trans g10).trans g11)
                    have kA11 := kA.grow ((g9.trans g10).trans g11)
                    have bP7 := bP.grow gg
                    have bZ7 := bZ5.grow gg
                    have bR7 := bR5.grow gg
                    have bA7 := bA5.grow gg
                    have hg7 := hg5.trans gg
                    have p0 := bP7.cell 0
                    have p1 := bP7.cell 1
                    have p2 := bP7.cell 2
                    simp only [List.getElem?_cons_zero, List.getElem?_cons_succ] at p0 p1 p2
                    have e1 := bP7.free 1
                    have e2 := bP7.free 2
                    have bP8 := (bP7.set 2 (.slice A1 m1 c1)).set 1 (.slice A2 m2 c2)
                    have bR8 := (bR7.far (p := ⟨R2, 2, none⟩) hPne.symm (.slice A1 m1 c1)).far (p := ⟨R2, 1, none⟩) hPne.symm (.slice A2 m2 c2)
                    have bA8 := (bA7.far (p := ⟨R2, 2, none⟩) hPA.symm (.slice A1 m1 c1)).far (p := ⟨R2, 1, none⟩) hPA.symm (.slice A2 m2 c2)
                    have bZ8 := (bZ7.far bP7 2 (.slice A1 m1 c1) hPG).far (bP7.set 2 (.slice A1 m1 c1)) 1 (.slice A2 m2 c2) hPG
                    have kN8 := (kN.setFar (p := ⟨R2, 2, none⟩) bP7 (by decide) (.slice A1 m1 c1)).setFar (p := ⟨R2, 1, none⟩) (bP7.set 2 (.slice A1 m1 c1)) (by decide) (.slice A2 m2 c2)
                    have kA8 := (kA11.setFar (p := ⟨R2, 2, none⟩) bP7 (by decide) (.slice A1 m1 c1)).setFar (p := ⟨R2, 1, none⟩) (bP7.set 2 (.slice A1 m1 c1)) (by decide) (.slice A2 m2 c2)
                    have hg8 := (hg7.set (p := ⟨R2, 2, none⟩) hPw (.slice A1 m1 c1)).set (p := ⟨R2, 1, none⟩) hPw (.slice A2 m2 c2)
                    simp only [List.set_cons_zero, List.set_cons_succ] at bP8
                    clear bP7 bR7 bZ7 hg7 bP bR5 bZ5 kN kA kA11 g6 g7 g8 g9 g10 g11 gg hg5 bA5 bA7 PR1 PR2
                    go_wp2
                    generalize (w11.setCell ⟨R2, 2, none⟩ (.slice A1 m1 c1)).setCell ⟨R2, 1, none⟩ (.slice A2 m2 c2) = w12 at *
                    clear p0 p1 p2 e1 e2
                    go_loopw [133] (fun i wr => ∃ t : Nat, t ≤ D ∧ i = .int .i64 (t : Int) ∧ WinsAt wr GW ws.length (fun s => raceW u ws F T m s t) ∧ Blk wr R2 60 [.slice (some ⟨GW, 0, none⟩) ws.length ws.length, .slice A2 m2 c2, .slice A1 m1 c1] ∧ Blk wr w.heap.size 60 [.slice none 0 0, .slice none 0 0, .slice none 0 0] ∧ Blk wr Ga 4 (bools bs) ∧ IsNatF wr (.slice A2 m2 c2) (chooseI ((T : Int) - D) m * m) ∧ IsNatF wr (.slice A1 m1 c1) (chooseI T m * m) ∧ Grow w wr) (fun i _ => D - (intOf i).toNat)
                    case atStart => exact ⟨0, Nat.zero_le _, rfl, bZ8, bP8, bR8, bA8, kN8, kA8, hg8⟩
                    case round =>
                      clear bZ8 bP8 bR8 bA8 kN8 kA8 hg8
                      obtain ⟨t, ht, rfl, bZ, bP, bR, bA, kN, kA, hg⟩ := hrel
                      by_cases hlt : t < D
                      · have i1 : (t : Int) < (D : Int) := by omega
                        have htT : t < T := by omega
                        go_wp2_with fail
                        refine (choose_all ((T : Int) - (t : Int) - 1) ((m : Int) - 1) _ (by omega)).mono ?_
                        rintro e w13 ⟨x7, rfl, kB, g13⟩
                        obtain ⟨B7, n7, d7, rfl⟩ := kB.open_
                        have bZ3 := bZ.grow g13
                        have bP3 := bP.grow g13
                        have bR3 := bR.grow g13
                        have bA3 := bA.grow g13
                        have kN3 := kN.grow g13
                        have kA3 := kA.grow g13
                        have hg3 := hg.trans g13
                        clear bZ bP bR bA kN kA hg g13
                        go_wp2
                        go_loopw [145] (fun i wr => ∃ k : Nat, k ≤ u.length ∧ i = .int .i64 (k : Int) ∧ WinsAt wr GW ws.length (fun s => raceW u ws F T m s t + raceK u ws ((F + t) % ws.length) (chooseI ((T : Int) - t - 1) ((m : Int) - 1)) s k) ∧ Blk wr R2 60 [.slice (some ⟨GW, 0, none⟩) ws.length ws.length, .slice A2 m2 c2, .slice A1 m1 c1] ∧ Blk wr w.heap.size 60 [.slice none 0 0, .slice none 0 0, .slice none 0 0] ∧ Blk wr Ga 4 (bools bs) ∧ IsNatF wr (.slice A2 m2 c2) (chooseI ((T : Int) - D) m * m) ∧ IsNatF wr (.slice A1 m1 c1) (chooseI T m * m) ∧ IsNatF wr (.slice B7 n7 d7) (chooseI ((T : Int) - t - 1) ((m : Int) - 1)) ∧ Grow w wr) (fun i _ => u.length - (intOf i).toNat)
                        case atStart => exact ⟨0, Nat.zero_le _, rfl, by simpa [raceK] using bZ3, bP3, bR3, bA3, kN3, kA3, kB, hg3⟩
                        case round =>
                          clear bZ3 bP3 bR3 bA3 kN3 kA3 kB hg3
                          obtain ⟨k, hk, rfl, bZ, bP, bR, bA, kN, kA, kB, hg⟩ := hrel
                          by_cases hlk : k < u.length
                          · obtain ⟨ad, hA, _, hx⟩ := (r1.grow hg).int hlk
                            obtain rfl := hA
                            have hkb : k < bs.length := by rw [HBL.out]; exact hlk
                            have q1 := bA.cell_bool hkb
                            obtain ⟨u0, u4⟩ := OK.out.hu.at_ hlk
                            have i2 : (0 : Int) ≤ (k : Int) := by omega
                            have i3 : (k : Int) < (u.length : Int) := by omega
                            obtain ⟨b, hb⟩ : ∃ b, b = bs[k] := ⟨_, rfl⟩
                            rw [← hb] at q1
                            have HAB := hid (hb.trans (HM.out k hkb))
                            obtain ⟨s0, hs0⟩ : ∃ s0, s0 = (F + t) % ws.length := ⟨_, rfl⟩
                            have hs0l : s0 < ws.length := by rw [hs0]; exact Nat.mod_lt _ (by omega)
                            have e1 : ((F : Int) + (t : Int)) % (ws.length : Int) = (s0 : Int) := by rw [hs0]; simp
                            have HS0 := hid hs0
                            have E1 := hid e1
                            clear hb hs0 e1
                            cases b
                            · have hwin : winI ws s0 (k : Int) = -1 := by
                                rcases winI_ask ws s0 (k : Int) with h | h
                                · rw [← HAB.out] at h; exact absurd h.1 (by simp)
                                · exact h.2
                              have HSK := hid (fun (s : Nat) => raceK_skip (u := u) (b := chooseI ((T : Int) - t - 1) ((m : Int) - 1)) (s := s) (show winI ws s0 (k : Int) ≠ s by omega))
                              clear hwin
                              go_wp2
                              go_loop [27] (fun _ => True) (fun _ => 0)
                              case atStart => trivial
                              case round =>
                                go_wp2
                                refine ⟨⟨k + 1, by omega, by go_num, ?_, bP, bR, bA, kN, kA, kB, hg⟩, by simp only [intOf]; omega⟩
                                have h := bZ
                                rw [← HS0.out] at h ⊢
                                simp only [HSK.out]
                                exact h
                            · go_wp2
                              rw [E1.out]
                              go_loop [27] (fun v => ∃ i : Nat, i < ws.length ∧ v = .int .i64 (((s0 + i) % ws.length : Nat) : Int) ∧ ∀ j, j < i → inW ws ((s0 + j) % ws.length) (k : Int) = false) (fun v => ws.length - ((intOf v - (s0 : Int)) % (ws.length : Int)).toNat)
                              case atStart => exact ⟨0, by omega, by rw [Nat.add_zero, Nat.mod_eq_of_lt hs0l], by simp⟩
                              case round =>
                                obtain ⟨i, hi, rfl, hz⟩ := hrel
                                have HIZ := hid hz
                                clear hz
                                obtain ⟨p, hp⟩ : ∃ p, p = (s0 + i) % ws.length := ⟨_, rfl⟩
                                have hpl : p < ws.length := by rw [hp]; exact Nat.mod_lt _ (by omega)
                                obtain ⟨ad3, C, cn, cd, hA3, _, hx3, hi3, rfl⟩ := (HR.out.grow hg).at_ hpl
                                obtain rfl := hA3
                                have hco := contains_ints _ ws[p] (k : Int) wr hi3
                                rw [← inW_at hpl] at hco
                                rw [← hp]
                                have HP := hid hp
                                have hpi : (p : Int) < (ws.length : Int) := by omega
                                clear hp
                                generalize hq : inW ws p (k : Int) = q at hco
                                have HQ := hid hq
                                have HCO := hid hco
                                clear hq hco
                                cases q
                                · have hi1 : i + 1 < ws.length := by
                                    rcases Nat.lt_or_ge (i + 1) ws.length with h | h
                                    · exact h
                                    · have h2 : askB ws (k : Int) = false := none_asks (seat := s0) fun j hj => by
                                        by_cases e : j = i
                                        · subst e; rw [← HP.out]; exact HQ.out
                                        · exact HIZ.out j (by omega)
                                      rw [← HAB.out] at h2
                                      cases h2
                                  have e2 : ((p : Int) + 1) % (ws.length : Int) = (((s0 + (i + 1)) % ws.length : Nat) : Int) := by
                                    rw [HP.out, ← round_step _ _ _ (show 0 < ws.length by omega)]; simp
                                  have mm := round_back hs0l hi
                                  have mm2 := round_back hs0l hi1
                                  have E2 := hid e2
                                  have MM := hid (And.intro mm mm2)
                                  clear e2 mm mm2
                                  go_wp2_with fail
                                  refine HCO.out.mono ?_
                                  rintro e w14 ⟨rfl, rfl⟩
                                  go_wp2
                                  refine ⟨⟨i + 1, hi1, by rw [E2.out], fun j hj => ?_⟩, ?_⟩
                                  · by_cases e : j = i
                                    · subst e; rw [← HP.out]; exact HQ.out
                                    · exact HIZ.out j (by omega)
                                  · have h1 := MM.out.1
                                    have h2 := MM.out.2
                                    rw [← HP.out] at h1
                                    simp only [intOf, E2.out, h1, h2]
                                    omega
                                · have hwin : winI ws s0 (k : Int) = (p : Int) := by
                                    rw [HP.out]
                                    exact winI_found hi (by rw [← HP.out]; exact HQ.out) HIZ.out
                                  have HWN := hid hwin
                                  obtain ⟨A3, m3, c3, hc0, k0, hf0, hGl⟩ := bZ.at_ hpl
                                  have sm := race_small OK.out.hu OK.out.h34 ws (first := F) (m := m) (s := p) (t := t) (k := k) (N := T) (by omega) htT hlk
                                  have p0 := bP.cell 0
                                  simp only [List.getElem?_cons_zero] at p0
                                  clear hwin
                                  go_wp2_with fail
                                  refine HCO.out.mono ?_
                                  rintro e w14 ⟨rfl, rfl⟩
                                  go_wp2
                                  rw [HS0.out.symm] at sm
                                  have k0 : IsNatF wr (.slice A3 m3 c3) (raceW u ws F T m p t + raceK u ws s0 (chooseI ((T : Int) - t - 1) ((m : Int) - 1)) p k) := by rw [HS0.out]; exact k0
                                  obtain ⟨sm1, sm2, sm3⟩ := sm
                                  have NA := hid (fun W => natural_any (u[k]'hlk) W u0 (by omega))
                                  have eg : u.getD k 0 = u[k] := by rw [List.getD_eq_getElem?_getD, List.getElem?_eq_getElem hlk]; rfl
                                  rw [eg] at sm3
                                  have PR := hid (fun va vb W h1 h2 => product_any va vb _ (u[k]'hlk) W h1 h2 sm2 (small_lit6 (by omega)))
                                  have SU := hid (fun va vb W h1 h2 => sum_any va vb _ _ W h1 h2 sm1 sm3)
                                  have K0 := hid k0
                                  have HFP := hid (show raceW u ws F T m p t + raceK u ws s0 (chooseI ((T : Int) - t - 1) ((m : Int) - 1)) p (k + 1) = raceW u ws F T m p t + raceK u ws s0 (chooseI ((T : Int) - t - 1) ((m : Int) - 1)) p k + chooseI ((T : Int) - t - 1) ((m : Int) - 1) * (u[k]'hlk) from by rw [raceK_hit HWN.out, eg, Int.add_assoc])
                                  have HFS := hid (fun (s : Nat) (hs : s ≠ p) => raceK_skip (u := u) (b := chooseI ((T : Int) - t - 1) ((m : Int) - 1)) (s := s) (show winI ws s0 (k : Int) ≠ s by rw [HWN.out]; omega))
                                  clear eg
                                  have HF0 := hid hf0
                                  have KEEP := hid (fun W (hg : Grow wr W) => (⟨hg, hg.cell_some p0, hg.cell_some hc0, hg.cell_some hx⟩ : Grow wr W ∧ W.cell? ⟨R2, 0, none⟩ = some (.slice (some ⟨GW, 0, none⟩) ws.length ws.length) ∧ W.cell? ⟨GW, p, none⟩ = some (.slice A3 m3 c3) ∧ W.cell? (ad.add k) = some (.int .i64 u[k])))
                                  clear sm1 sm2 sm3 k0 hf0 p0 hc0 hx
                                  refine anyBut_region 17 (S := fun W => Grow wr W ∧ W.cell? ⟨R2, 0, none⟩ = some (.slice (some ⟨GW, 0, none⟩) ws.length ws.length) ∧ W.cell? ⟨GW, p, none⟩ = some (.slice A3 m3 c3) ∧ W.cell? (ad.add k) = some (.int .i64 u[k])) (by kernel_rfl) (KEEP.out _ (Grow.refl _).drew) (fun hQ hHeld => ?_)
                                  refine AnyBut.take 0 (v := ?_) (by rfl) (by kernel_rfl) (by kernel_rfl) (by kernel_rfl) (by kernel_rfl) hQ (by rfl) (fun w hS => ?_) hHeld ?_
                                  rotate_left
                                  · (try dsimp only at hS); go_simp; (try with_reducible rfl)
                                  (try simp only [Act.put])
                                  refine AnyBut.take 1 (v := ?_) (by rfl) (by kernel_rfl) (by kernel_rfl) (by kernel_rfl) (by kernel_rfl) hQ (by rfl) (fun w hS => ?_) hHeld ?_
                                  rotate_left
                                  · (try dsimp only at hS); go_simp; (try with_reducible rfl)
                                  (try simp only [Act.put])
                                  refine AnyBut.take 2 (v := ?_) (by rfl) (by kernel_rfl) (by kernel_rfl) (by kernel_rfl) (by kernel_rfl) hQ (by rfl) (fun w hS => ?_) hHeld ?_
                                  rotate_left
                                  · (try dsimp only at hS); go_simp; (try with_reducible rfl)
                                  (try simp only [Act.put])
                                  refine AnyBut.take 3 (v := ?_) (by rfl) (by kernel_rfl) (by kernel_rfl) (by kernel_rfl) (by kernel_rfl) hQ (by rfl) (fun w hS => ?_) hHeld ?_
                                  rotate_left
                                  · (try dsimp only at hS); go_simp; (try with_reducible rfl)
                                  (try simp only [Act.put])
                                  refine AnyBut.take 4 (v := ?_) (by rfl) (by kernel_rfl) (by kernel_rfl) (by kernel_rfl) (by kernel_rfl) hQ (by rfl) (fun w hS => ?_) hHeld ?_
                                  rotate_left
                                  · (try dsimp only at hS); go_simp; (try with_reducible rfl)
                                  (try simp only [Act.put])
                                  refine AnyBut.take 5 (v := ?_) (by rfl) (by kernel_rfl) (by kernel_rfl) (by kernel_rfl) (by kernel_rfl) hQ (by rfl) (fun w hS => ?_) hHeld ?_
                                  rotate_left
                                  · (try dsimp only at hS); go_simp; (try with_reducible rfl)
                                  (try simp only [Act.put])
                                  refine AnyBut.take 6 (v := ?_) (by rfl) (by kernel_rfl) (by kernel_rfl) (by kernel_rfl) (by kernel_rfl) hQ (by rfl) (fun w hS => ?_) hHeld ?_
                                  rotate_left
                                  · (try dsimp only at hS); go_simp; (try with_reducible rfl)
                                  (try simp only [Act.put])
                                  refine AnyBut.take 7 (v := ?_) (by rfl) (by kernel_rfl) (by kernel_rfl) (by kernel_rfl) (by kernel_rfl) hQ (by rfl) (fun w hS => ?_) hHeld ?_
                                  rotate_left
                                  · (try dsimp only at hS); go_simp; (try with_reducible rfl)
                                  (try simp only [Act.put])
                                  refine AnyBut.take 8 (v := ?_) (by rfl) (by kernel_rfl) (by kernel_rfl) (by kernel_rfl) (by kernel_rfl) hQ (by rfl) (fun w hS => ?_) hHeld ?_
                                  rotate_left
                                  · (try dsimp only at hS); go_simp; (try with_reducible rfl)
                                  (try simp only [Act.put])
                                  refine AnyBut.take 9 (v := ?_) (by rfl) (by kernel_rfl) (by kernel_rfl) (by kernel_rfl) (by kernel_rfl) hQ (by rfl) (fun w hS => ?_) hHeld ?_
                                  rotate_left
                                  · (try dsimp only at hS); go_simp; (try with_reducible rfl)
                                  (try simp only [Act.put])
                                  refine AnyBut.take 10 (v := ?_) (by rfl) (by kernel_rfl) (by kernel_rfl) (by kernel_rfl) (by kernel_rfl) hQ (by rfl) (fun w hS => ?_) hHeld ?_
                                  rotate_left
                                  · (try dsimp only at hS); go_simp; (try with_reducible rfl)
                                  (try simp only [Act.put])
                                  refine AnyBut.take 11 (v := ?_) (by rfl) (by kernel_rfl) (by kernel_rfl) (by kernel_rfl) (by kernel_rfl) hQ (by rfl) (fun w hS => ?_) hHeld ?_
                                  rotate_left
                                  · (try dsimp only at hS); go_simp; (try with_reducible rfl)
                                  (try simp only [Act.put])
                                  refine AnyBut.take 12 (v := ?_) (by rfl) (by kernel_rfl) (by kernel_rfl) (by kernel_rfl) (by kernel_rfl) hQ (by rfl) (fun w hS => ?_) hHeld ?_
                                  rotate_left
                                  · (try dsimp only at hS); go_simp; (try with_reducible rfl)
                                  (try simp only [Act.put])
                                  refine AnyBut.one 13 (by kernel_rfl) (by rfl) (fun K hK => ?_)
                                  go_simp
                                  refine (NA.out _).mono ?_
                                  rintro e wA ⟨vA, rfl, kU, gA0⟩
                                  have gA := (Grow.refl wr).drew.trans gA0
                                  obtain ⟨A8, m8, c8, rfl⟩ := kU.open_
                                  refine hK.out _ _ (KEEP.out _ gA) (fun hHeld => ?_)
                                  (try simp only [Act.put])
                                  refine AnyBut.one 14 (by kernel_rfl) (by rfl) (fun K hK => ?_)
                                  go_simp
                                  refine (PR.out _ _ _ (kB.grow gA).1 kU.1).mono ?_
                                  rintro e wB ⟨vB, rfl, kB2, gB0⟩
                                  have gB := gA.trans gB0
                                  obtain ⟨A9, m9, c9, rfl⟩ := kB2.open_
                                  refine hK.out _ _ (KEEP.out _ gB) (fun hHeld => ?_)
                                  (try simp only [Act.put])
                                  refine AnyBut.one 15 (by kernel_rfl) (by rfl) (fun K hK => ?_)
                                  go_simp
                                  refine (SU.out _ _ _ (K0.out.grow gB).1 kB2.1).mono ?_
                                  rintro e wC ⟨vC, rfl, kC, gC0⟩
                                  have gC := gB.trans gC0
                                  obtain ⟨A10, m10, c10, rfl⟩ := kC.open_
                                  refine hK.out _ _ (KEEP.out _ gC) (fun hHeld => ?_)
                                  (try simp only [Act.put])
                                  refine AnyBut.take 16 (v := ?_) (by rfl) (by kernel_rfl) (by kernel_rfl) (by kernel_rfl) (by kernel_rfl) hQ (by rfl) (fun w hS => ?_) hHeld ?_
                                  rotate_left
                                  · (try dsimp only at hS); go_simp; (try with_reducible rfl)
                                  (try simp only [Act.put])
                                  have hcZ := hHeld.2.2.1
                                  have hfZ := (gC.frozen (p := ⟨GW, p, none⟩) hGl).trans HF0.out
                                  refine AnyBut.last (by kernel_rfl) (by rfl) (by kernel_rfl) (fun K hK => ?_)
                                  go_simp
                                  refine hK.out _ _ ?_
                                  refine NoPanic.normal ?_
                                  have bZC := bZ.grow gC
                                  obtain ⟨vsC, bWC⟩ := bZC.blk
                                  have bP9 := (bP.grow gC).far (p := ⟨GW, p, none⟩) hPG (.slice A10 m10 c10)
                                  have bR9 := (bR.grow gC).far (p := ⟨GW, p, none⟩) hGne.symm (.slice A10 m10 c10)
                                  have bA9 := (bA.grow gC).far (p := ⟨GW, p, none⟩) hGA.symm (.slice A10 m10 c10)
                                  have kN9 := (kN.grow gC).setFar (p := ⟨GW, p, none⟩) bWC (by decide) (.slice A10 m10 c10)
                                  have kA9 := (kA.grow gC).setFar (p := ⟨GW, p, none⟩) bWC (by decide) (.slice A10 m10 c10)
                                  have kB9 := (kB.grow gC).setFar (p := ⟨GW, p, none⟩) bWC (by decide) (.slice A10 m10 c10)
                                  have hg9 := (hg.trans gC).set (p := ⟨GW, p, none⟩) hGW (.slice A10 m10 c10)
                                  have bZ9 : WinsAt (wC.setCell ⟨GW, p, none⟩ (.slice A10 m10 c10)) GW ws.length (fun s => raceW u ws F T m s t + raceK u ws ((F + t) % ws.length) (chooseI ((T : Int) - t - 1) ((m : Int) - 1)) s (k + 1)) :=
                                    WinsAt.set bZC (by rw [← HS0.out, HFP.out]; exact kC) (fun s hs => by rw [← HS0.out, HFS.out s hs])
                                  clear bZC bWC bZ bP bR bA kN kA kB hg hcZ hfZ
                                  go_wp2
                                  exact ⟨⟨k + 1, by omega, by go_num, bZ9, bP9, bR9, bA9, kN9, kA9, kB9, hg9⟩, by simp only [intOf]; omega⟩
                          · obtain rfl : k = u.length := by omega
                            go_wp2
                            exact ⟨⟨t + 1, by omega, by go_num, bZ, bP, bR, bA, kN, kA, hg⟩, by simp only [intOf]; omega⟩
                      · obtain rfl : t = D := by omega
                        have q0 := bR.cell 0
                        have q1 := bR.cell 1
                        have q2 := bR.cell 2
                        have p0 := bP.cell 0
                        have p1 := bP.cell 1
                        have p2 := bP.cell 2
                        simp only [List.getElem?_cons_zero, List.getElem?_cons_succ] at q0 q1 q2 p0 p1 p2
                        have f0 := bR.free 0
                        have f1 := bR.free 1
                        have f2 := bR.free 2
                        have FIN := hid (race_of_wins (f' := raceF u ws F t) (er := 0) (by omega) bZ (fun s => by unfold raceF; rw [HMM.out, if_neg (by have := HZ.out; omega), HT.out]; simp) kN kA bR hg)
                        have RES2 := hid (fun e w' (hrr : RaceRes w ws.length (raceF u ws F t) (chooseI ((T : Int) - t) m * m) (chooseI T m * m) 0 e w') => RES.out e w' (by
                          have e1 : raceN u ws t = chooseI ((T : Int) - t) m * m := by unfold raceN; rw [HMM.out, if_neg (by have := HZ.out; omega), HT.out]
                          have e2 : raceA u ws = chooseI T m * m := by unfold raceA; rw [HMM.out, if_neg (by have := HZ.out; omega), HT.out]
                          rw [e1, e2]; exact hrr))
                        clear bZ bP bR bA kN kA hg
                        go_wp2
                        refine bodyPost_ret (v := .tuple #[.agg #[.slice (some ⟨GW, 0, none⟩) ws.length ws.length, .slice A2 m2 c2, .slice A1 m1 c1], .int .i64 0]) (by simp [results, Try.results41, go_sem, q0, q1, q2]) rfl (RES2.out _ _ FIN.out)
end Go.Proofs.Ytgphdaipgodjgaa
