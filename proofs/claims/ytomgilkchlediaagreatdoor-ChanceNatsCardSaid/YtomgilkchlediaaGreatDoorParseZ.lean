/-
  The walk of Parse: a natural out of its text.
-/
import Derived.Test.YtomgilkchlediaaGreatDoorTextZ
import Derived.Test.YtomgilkchlediaaGreatDoorLast
import Derived.Shelf.Strings.SlTrimAscii
import Derived.Lib.AtoiTie
namespace Go.Proofs.YtomgilkchlediaaGreatDoor
open Go.RowKit

/-- The ten digits. -/
def ten : List UInt8 := [48, 49, 50, 51, 52, 53, 54, 55, 56, 57]
theorem ten_mem (b : UInt8) : ten.contains b = decide (48 ≤ b.toNat ∧ b.toNat ≤ 57) := by
  revert b
  have h : ∀ n : Fin 256, ten.contains (UInt8.ofNat n.val) = decide (48 ≤ (UInt8.ofNat n.val).toNat ∧ (UInt8.ofNat n.val).toNat ≤ 57) := by decide +kernel
  intro b
  have := h ⟨b.toNat, UInt8.toNat_lt b⟩
  simpa using this
theorem dropW_nil {p : UInt8 → Bool} {l : List UInt8} : l.dropWhile p = [] ↔ ∀ b ∈ l, p b = true := by
  induction l with
  | nil => simp
  | cons x l ih =>
    rw [List.dropWhile_cons]
    by_cases h : p x = true
    · rw [if_pos h, ih]
      simp [h]
    · rw [if_neg h]
      simp [h]
theorem mem_takeW {p : UInt8 → Bool} {l : List UInt8} {b : UInt8} (h : b ∈ l.takeWhile p) : p b = true := by
  induction l with
  | nil => simp at h
  | cons x l ih =>
    rw [List.takeWhile_cons] at h
    by_cases hx : p x = true
    · rw [if_pos hx] at h
      rcases List.mem_cons.1 h with rfl | h
      · exact hx
      · exact ih h
    · rw [if_neg hx] at h
      simp at h
theorem trim_all {l : List UInt8} (h : AllD l) : Lib.trimS l ten = [] := by
  have hr : Lib.trimRightS l ten = [] := by
    unfold Lib.trimRightS
    have : l.reverse.dropWhile (ten.contains ·) = [] := dropW_nil.2 fun b hb => by
      rw [ten_mem]
      have := h b (List.mem_reverse.1 hb)
      simp
      omega
    rw [this]
    rfl
  unfold Lib.trimS
  rw [hr]
  rfl
theorem trim_some {l : List UInt8} (h : Lib.trimS l ten = []) : AllD l := by
  have hin : ∀ b, ten.contains b = true → 48 ≤ b.toNat ∧ b.toNat ≤ 57 := fun b hb => by
    rw [ten_mem] at hb
    exact of_decide_eq_true hb
  unfold Lib.trimS Lib.trimLeftS at h
  have h1 := dropW_nil.1 h
  intro b hb
  unfold Lib.trimRightS at h1
  have hs : b ∈ (l.reverse.takeWhile (ten.contains ·)) ++ (l.reverse.dropWhile (ten.contains ·)) := by
    rw [List.takeWhile_append_dropWhile]
    exact List.mem_reverse.2 hb
  rcases List.mem_append.1 hs with hb | hb
  · exact hin b (mem_takeW (p := (ten.contains ·)) hb)
  · exact hin b (h1 b (List.mem_reverse.2 hb))
theorem Trim_any (l : List UInt8) (w : World) (hl : l.length ≤ 1000000) : Calls Tryz.prog 36 #[.string (strB l), .string (strB ten)] w (GivesS w (Lib.trimS l ten)) :=
  (Any.strings_Trim_laid Tryz.lays160 (by kernel_rfl) (strB l) (strB ten) w (by rw [strB_size]; omega) (by rw [strB_size]; decide) (by
    rw [strB_list]
    exact ascii_of_all (by decide))).mono fun e w' ⟨he, hg⟩ => ⟨by rw [he, strB_list, strB_list]; rfl, hg⟩
theorem Atoi_any (c : List UInt8) (w : World) (h : AllD c) (h0 : 0 < c.length) (h9 : c.length ≤ 9) : Calls Tryz.prog 37 #[.string (strB c)] w fun e w' => e = .returned (.tuple #[.int .i64 (vt c : Int), .nilIface]) ∧ Grow w w' := by
  have e : Lib.atoi (strB c).data.toList = some (vt c : Int) := by
    rw [strB_list]
    cases c with
    | nil => simp at h0
    | cons b r =>
      have hb := h b (List.mem_cons_self ..)
      have n45 : (b == 45) = false := beq_false_of_ne fun e => by subst e; exact absurd hb.1 (by decide)
      have n43 : (b == 43) = false := beq_false_of_ne fun e => by subst e; exact absurd hb.1 (by decide)
      show (if (b == 45) = true then (Lib.decNat r).map fun (m : Nat) => -(m : Int) else if (b == 43) = true then (Lib.decNat r).map fun (m : Nat) => (m : Int) else (Lib.decNat (b :: r)).map fun (m : Nat) => (m : Int)) = _
      rw [n45, n43, decNat_vt h (by simp)]
      rfl
  exact (Tryz.strconv_Atoi (strB c) _ (by rw [strB_size]; omega) e w).mono fun e w' ⟨he, t, hw⟩ => ⟨he, by rw [hw]; exact grow_bytes w _ _⟩
theorem ext_from (l : List UInt8) (k : Nat) : (strB l).extract k (strB l).size = strB (l.drop k) := by
  apply ByteArray.ext
  apply Array.ext'
  rw [strB_size]
  simp [strB]
  rw [List.take_of_length_le (by rw [List.length_drop]; omega)]
theorem ext_to (l : List UInt8) (k : Nat) : (strB l).extract 0 k = strB (l.take k) := by
  apply ByteArray.ext
  apply Array.ext'
  simp [strB]
theorem sl_from (l : List UInt8) (k : Nat) (hk : k ≤ l.length) : ∀ W : World, (Instr.slice 9 (.string (strB l)) (some (.int .i64 (k : Int))) none none).run Tryz.prog W = .ok (.string (strB (l.drop k))) W := fun W => by
  have h := run_slice_string_l (P := Tryz.prog) W 9 (strB l) Tryz.underlying9 .i64 (k : Int) (by omega) (by rw [strB_size]; omega)
  rw [h, show ((k : Int).toNat) = k from rfl, ext_from]
theorem sl_to (l : List UInt8) (k : Nat) (hk : k ≤ l.length) : ∀ W : World, (Instr.slice 9 (.string (strB l)) none (some (.int .i64 (k : Int))) none).run Tryz.prog W = .ok (.string (strB (l.take k))) W := fun W => by
  have h := run_slice_string_h (P := Tryz.prog) W 9 (strB l) Tryz.underlying9 .i64 (k : Int) (by omega) (by rw [strB_size]; omega)
  rw [h, show ((k : Int).toNat) = k from rfl, ext_to]
/-- What Parse hands back. -/
def ParseRes (w : World) (l : List UInt8) (e : Ending) (w' : World) : Prop :=
  ∃ A m c, e = .returned (.tuple #[.slice A m c, .int .i64 (parseErr l)]) ∧ Grow w w' ∧ (parseErr l ≠ 0 → A = none ∧ m = 0 ∧ c = 0) ∧ (parseErr l = 0 → IsNat w' (.slice A m c) (parseN l))
theorem strB_empty (l : List UInt8) : (strB l).toList = l := by
  rw [Lib.toList_data, strB_list]
theorem idx_zero (c : UInt8) (m : List UInt8) : ∀ W : World, (Instr.index 9 (.string (strB (c :: m))) (.int .i64 0)).run Tryz.prog W = .ok (.int .u8 (c.toNat : Int)) W := fun W => by
  have hs : (0 : Int) < ((strB (c :: m)).size : Int) := by rw [strB_size]; simp
  rw [run_index_string (P := Tryz.prog) W 9 (strB (c :: m)) .i64 0 Tryz.underlying9, dif_pos ⟨Int.le_refl 0, hs⟩]
  rfl
theorem lead_zero {c : UInt8} : ((c.toNat : Int) == 48) = decide (c = 48) := by
  by_cases h : c = 48
  · subst h; rfl
  · have : c.toNat ≠ 48 := fun e => h (UInt8.toNat_inj.1 e)
    rw [decide_eq_false h]
    simp
    omega
theorem run_append_intS (w0 w : World) (t ty : TypeId) (ht : Tryz.prog.underlying t = some (.slice 3)) (z : Int) (v : Value) (os : List Int) (hown : Own w0 w v os) (hl : os.length ≤ 1000000000) (hg : w0.heap.size ≤ w.heap.size) :
    ∃ v' w', (Builtin.append_ #[t, t] ty #[v, .slice (some ⟨w.heap.size, 0, none⟩) 1 1]).run Tryz.prog (w.alloc (.cells #[.int .i64 z] 3)) = .ok v' w' ∧ Own w0 w' v' (os ++ [z]) ∧ (w.alloc (.cells #[.int .i64 z] 3)).grownBy w' v.ownBlock := by
  obtain ⟨i0, hi0, hz0, hz1, hz2⟩ := info_parts infoInt
  obtain ⟨v', w', hrun, h1, h2, _⟩ := run_append_own (P := Tryz.prog) (w.alloc (.cells #[.int .i64 z] 3)) w0.heap.size t ty 3 i0 _ 1 8 ht hi0 hz0 hz1 hz2 rfl (by decide) v os.length (ints os) (World.ownsRow.alloc hown _) ⟨w.heap.size, 0, none⟩ 1 1 [.int .i64 z] rfl
    (World.news_of_block (cs := #[.int .i64 z]) (t := 3) (fr := (0, 0)) (heap_alloc_new w _)) (by simp [Value.oneCell']) (by unfold maxLen; omega) (by omega) (by simp; omega)
  refine ⟨v', w', hrun, ?_, h2⟩
  have e : (os ++ [z]).length = os.length + 1 := by simp
  unfold Own
  rw [e]
  simpa [ints] using h1
theorem step_append_at {ops : Array Oper} {o : Oper} {a : Act} {Q : Exit → Act → World → Prop} {K : Act → World → Prop} {E : Prop} {w w' : World} {t : TypeId} {v xv v' : Value} (hgd : o.guard = none) (s x : Operand)
    (ho : o.op = .call { callee := .builtin .append, args := #[s, x], argTypes := #[t, t] }) (hs : a.eval s = v) (hx : a.eval x = xv) (hr : (Builtin.append_ #[t, t] o.type #[v, xv]).run Tryz.prog w = .ok v' w') (h : K (a.put o.dst v') w') :
    if Region.wanted o (yielded ops a.tmps) = true then Oper.wp Tryz.prog o a w K Q else E := by
  have hw : Region.wanted o (yielded ops a.tmps) = true := by simp [Region.wanted, hgd]
  rw [if_pos hw]
  unfold Oper.wp execOp
  simp only [ho, resolve, invoke, builtin, Sem.run_bind, Sem.run_pure, Result.andThen_ok, List.map_toArray, List.map_cons, List.map_nil, hs, hx, hr]
  exact h
theorem IsNat.slice3 {w : World} {v : Value} {n : Int} (h : IsNat w v n) : ∃ A m c, v = .slice A m c := by
  obtain ⟨zs, _, _, A, c, e, _⟩ := h
  exact ⟨A, _, c, e⟩
def strLen : Value → Nat | .string s => s.size | _ => 0
theorem Own.slice_ {w0 w : World} {v : Value} {l : List Int} (h : Own w0 w v l) : ∃ A m c, v = .slice A m c := by
  obtain ⟨A, c, e, _⟩ := h.is
  exact ⟨A, _, c, e⟩
set_option maxRecDepth 100000 in
set_option maxHeartbeats 4000000 in
theorem Parse_any (l : List UInt8) (w : World) (hl : l.length ≤ 1000000) : Calls Tryz.prog 9 #[.string (strB l)] w (ParseRes w l) := by
  have HBAD := hid (fun wf (he : parseErr l = 3) (hg : Grow w wf) => (show ParseRes w l (.returned (.tuple #[.slice none 0 0, .int .i64 3])) wf from ⟨none, 0, 0, by rw [he], hg, fun _ => ⟨rfl, rfl, rfl⟩, fun h => by rw [he] at h; exact absurd h (by decide)⟩))
  have HLONG := hid (fun wf (he : parseErr l = 5) (hg : Grow w wf) => (show ParseRes w l (.returned (.tuple #[.slice none 0 0, .int .i64 5])) wf from ⟨none, 0, 0, by rw [he], hg, fun _ => ⟨rfl, rfl, rfl⟩, fun h => by rw [he] at h; exact absurd h (by decide)⟩))
  have TL := hid (strB_empty l)
  obtain ⟨n, hsz⟩ : ∃ n, (strB l).size = n := ⟨_, rfl⟩
  have HN := hid (hsz.symm.trans (strB_size l))
  have TR := hid (fun W => Trim_any l W hl)
  by_cases h0 : l = []
  · have HE := hid (show parseErr l = 3 by unfold parseErr; rw [if_pos (.inl h0)])
    have e1 : (strB l).toList.isEmpty = true := by rw [TL.out, h0]; rfl
    clear h0
    generalize strB l = S at *
    go_enter Tryz.func9, Tryz.ntmps9
    go_wp2
    go_ret2
    exact HBAD.out _ HE.out (Grow.refl _)
  · have e1 : (strB l).toList.isEmpty = false := by rw [TL.out]; cases l <;> simp_all
    obtain ⟨c, m, hcm⟩ : ∃ c m, l = c :: m := by
      cases l with
      | nil => exact absurd rfl h0
      | cons c m => exact ⟨c, m, rfl⟩
    have ix : ∀ W : World, (Instr.index 9 (.string (strB l)) (.int .i64 0)).run Tryz.prog W = .ok (.int .u8 (c.toNat : Int)) W := by rw [hcm]; exact idx_zero c m
    have LZ := hid (lead_zero (c := c))
    have hlen1 : 1 ≤ n := by have := HN.out; rw [hcm] at this; simp at this; omega
    by_cases hc : c = 48 ∧ 1 < n
    · have HE := hid (show parseErr l = 3 by
        unfold parseErr
        rw [if_pos (.inr (.inl ⟨by rw [hcm, hc.1]; rfl, by rw [← HN.out]; exact hc.2⟩))])
      have b1 : ((c.toNat : Int) == 48) = true := by rw [LZ.out]; simp [hc.1]
      have b2 : (1 : Int) < (n : Int) := by have := hc.2; omega
      clear h0 hc hcm
      generalize strB l = S at *
      generalize (c.toNat : Int) = ci at *
      go_enter Tryz.func9, Tryz.ntmps9
      go_wp2
      go_ret2
      exact HBAD.out _ HE.out (Grow.refl _)
    · have HC := hid (show ((c.toNat : Int) == 48) = true ∧ ¬ (1 : Int) < (n : Int) ∨ ((c.toNat : Int) == 48) = false by
        rw [LZ.out]
        by_cases e : c = 48
        · left; exact ⟨by simp [e], fun h => hc ⟨e, by omega⟩⟩
        · right; simp [e])
      have HLZ := hid (show ¬ (l.head? = some 48 ∧ 1 < l.length) from fun h => hc ⟨by have := h.1; rw [hcm] at this; simpa using this, by rw [HN.out]; exact h.2⟩)
      by_cases hd : AllD l
      · have HTE := hid (trim_all hd)
        obtain ⟨T, hT⟩ : ∃ T, T = strB (Lib.trimS l ten) := ⟨_, rfl⟩
        have t1 : T.toList.isEmpty = true := by rw [hT, strB_empty, HTE.out]; rfl
        have TR2 := hid (show ∀ W : World, Calls Tryz.prog 36 #[.string (strB l), .string ⟨#[48, 49, 50, 51, 52, 53, 54, 55, 56, 57]⟩] W (fun e w' => e = .returned (.string T) ∧ Grow W w') from fun W => by rw [hT]; exact TR.out W)
        have HCC := HC.out
        have HNE : ¬ (l = [] ∨ (l.head? = some 48 ∧ 1 < l.length) ∨ l.any (fun b => decide (b.toNat < 48 ∨ 57 < b.toNat))) := by
          rintro (h | h | h)
          · exact h0 h
          · exact HLZ.out h
          · rw [any_of hd] at h; exact absurd h (by decide)
        by_cases hlong : 360 < n
        · have HE := hid (show parseErr l = 5 by unfold parseErr; rw [if_neg HNE, if_pos (by rw [← HN.out]; exact hlong)])
          have b3 : (360 : Int) < (n : Int) := by omega
          clear h0 hc hcm hd hT HNE
          generalize strB l = S at *
          generalize (c.toNat : Int) = ci at *
          rcases HCC with ⟨b1, b2⟩ | b1
          all_goals
            go_enter Tryz.func9, Tryz.ntmps9
            go_wp2_with (go_at_call 36; refine (TR2.out _).mono ?_; rintro e w' ⟨rfl, hg⟩)
            go_ret2
            exact HLONG.out _ HE.out hg
        · have HE := hid (show parseErr l = 0 by unfold parseErr; rw [if_neg HNE, if_neg (by rw [← HN.out]; exact hlong)])
          have b3 : ¬ (360 : Int) < (n : Int) := by omega
          have HD := hid hd
          have hl3 : l.length ≤ 360 := by have := HN.out; omega
          clear h0 hc hcm hd hT HNE
          generalize hS : strB l = S at *
          have HS := hid hS
          clear hS
          generalize (c.toNat : Int) = ci at *
          rcases HCC with ⟨b1, b2⟩ | b1
          all_goals
            go_enter Tryz.func9, Tryz.ntmps9
            go_wp2_with (go_at_call 36; refine (TR2.out _).mono ?_; rintro e w' ⟨rfl, hg0⟩)
            have G0 := hid hg0
            clear hg0
            go_loopw [0, 4] (fun tv ov wr => ∃ (t : List UInt8) (os : List Int), tv = .string (strB t) ∧ Own w wr ov os ∧ chs l = os ++ chs t ∧ AllD t ∧ t.length ≤ 360 ∧ os.length ≤ 360 - t.length ∧ Grow w wr) (fun tv _ _ => strLen tv)
            case atStart => exact ⟨l, [], by rw [HS.out], Own.nil _ _, rfl, HD.out, hl3, by simp, G0.out⟩
            case round =>
              obtain ⟨t, os, rfl, ho, hch, htd, ht3, hos, hg⟩ := hrel
              have HO := hid ho
              have HCH := hid hch
              have HTD := hid htd
              have HG := hid hg
              clear ho hch htd hg
              obtain ⟨tl, htl⟩ : ∃ tl, (strB t).size = tl := ⟨_, rfl⟩
              have HTL := hid (htl.symm.trans (strB_size t))
              obtain ⟨AO, mO, cO, rfl⟩ := HO.out.slice_
              by_cases htl0 : 0 < tl
              · have htl3 : tl ≤ 360 := by have := HTL.out; omega
                have hch2 := chs_cons (l := t) (by rw [← HTL.out]; exact htl0)
                rw [← HTL.out] at hch2
                obtain ⟨k, hk⟩ : ∃ k, k = tl - 9 := ⟨_, rfl⟩
                rw [← hk] at hch2
                have hmx : max (0 : Int) ((tl : Int) - 9) = (k : Int) := by omega
                have hkt : k ≤ tl := by omega
                have hd1 : AllD (t.drop k) := fun b hb => HTD.out b (List.mem_of_mem_drop hb)
                have hd2 : AllD (t.take k) := fun b hb => HTD.out b (List.mem_of_mem_take hb)
                have hl1 : (t.drop k).length = tl - k := by rw [List.length_drop, HTL.out]
                have hl2 : (t.take k).length = k := by rw [List.length_take, ← HTL.out]; omega
                have AT := hid (fun W => Atoi_any (t.drop k) W hd1 (by omega) (by omega))
                have EF := ext_from t k
                rw [htl] at EF
                have ET := ext_to t k
                have ho2 : k + 9 = tl ∨ k = 0 := by omega
                have HK := hid hk
                have HNEXT := hid (show chs l = (os ++ [(vt (t.drop k) : Int)]) ++ chs (t.take k) by rw [HCH.out, hch2]; simp)
                have HN2 := hid (And.intro hd2 (And.intro hl2 ho2))
                clear hk hd1 hd2 hl1 hl2 hch2 ho2
                generalize (vt (t.drop k) : Int) = va at *
                generalize t.drop k = td at *
                generalize t.take k = tt at *
                go_wp2_with (go_at_call 37; refine (AT.out _).mono ?_; rintro e wA ⟨rfl, gA⟩)
                have hoA := (HO.out.kept gA).kept (Grow.refl wA).drew
                have hgA := (HG.out.trans gA).trans (Grow.refl wA).drew
                obtain ⟨v', w5, hrun, hz5, gr5⟩ := run_append_intS w wA.drew 24 24 Tryz.underlying24 va _ os hoA (by omega) hgA.size
                obtain ⟨A5, q5, c5, rfl⟩ := hz5.slice_
                have HNEW := hid (And.intro hz5 ((hgA.alloc (.cells #[.int .i64 va] 3)).own gr5 (fun i hi => (World.ownsRow.lt hoA i hi).1)))
                have HRUN := hid hrun
                clear hoA hgA hrun hz5 gr5
                refine anyBut_region 8 (S := fun _ => True) (by kernel_rfl) trivial (fun hQ hHeld => ?_)
                refine AnyBut.take 0 (v := ?_) (by rfl) (by kernel_rfl) (by kernel_rfl) (by kernel_rfl) (by kernel_rfl) hQ (by rfl) (fun w hS => ?_) hHeld ?_
                rotate_left
                · (try dsimp only at hS); go_simp; (try with_reducible rfl)
                (try simp only [Act.put])
                refine AnyBut.take 1 (v := ?_) (by rfl) (by kernel_rfl) (by kernel_rfl) (by kernel_rfl) (by kernel_rfl) hQ (by rfl) (fun w hS => ?_) hHeld ?_
                rotate_left
                · (try dsimp only at hS); go_simp; (try with_reducible rfl)
                (try simp only [Act.put])
                refine AnyBut.take 4 (v := ?_) (by rfl) (by kernel_rfl) (by kernel_rfl) (by kernel_rfl) (by kernel_rfl) hQ (by rfl) (fun w hS => ?_) hHeld ?_
                rotate_left
                · (try dsimp only at hS); go_simp; (try with_reducible rfl)
                (try simp only [Act.put])
                refine AnyBut.take 5 (v := ?_) (by rfl) (by kernel_rfl) (by kernel_rfl) (by kernel_rfl) (by kernel_rfl) hQ (by rfl) (fun w hS => ?_) hHeld ?_
                rotate_left
                · (try dsimp only at hS); go_simp; (try with_reducible rfl)
                (try simp only [Act.put])
                refine AnyBut.take 6 (v := ?_) (by rfl) (by kernel_rfl) (by kernel_rfl) (by kernel_rfl) (by kernel_rfl) hQ (by rfl) (fun w hS => ?_) hHeld ?_
                rotate_left
                · (try dsimp only at hS); go_simp; (try with_reducible rfl)
                (try simp only [Act.put])
                refine AnyBut.one 2 (by kernel_rfl) (by rfl) (fun K hK => ?_)
                go_simp
                refine hK.out _ _ trivial (fun hHeld => ?_)
                (try simp only [Act.put])
                refine AnyBut.one 3 (by kernel_rfl) (by rfl) (fun K hK => ?_)
                refine step_append_at rfl (.tmp 42) (.tmp 44) (by rfl) (by rfl) (by rfl) HRUN.out ?_
                refine hK.out _ _ trivial (fun hHeld => ?_)
                (try simp only [Act.put])
                refine AnyBut.take 7 (v := ?_) (by rfl) (by kernel_rfl) (by kernel_rfl) (by kernel_rfl) (by kernel_rfl) hQ (by rfl) (fun w hS => ?_) hHeld ?_
                rotate_left
                · (try dsimp only at hS); go_simp; (try with_reducible rfl)
                (try simp only [Act.put])
                refine AnyBut.last (by kernel_rfl) (by rfl) (by kernel_rfl) (fun K hK => ?_)
                go_simp
                refine hK.out _ _ ?_
                refine NoPanic.normal ?_
                have hszt : (strB tt).size = k := (strB_size tt).trans HN2.out.2.1
                have HSZ := hid hszt
                have HSZ0 := hid htl
                clear hszt htl
                go_wp2_with fail
                exact ⟨⟨tt, os ++ [va], rfl, HNEW.out.1, HNEXT.out, HN2.out.1, by rw [HN2.out.2.1]; omega, by rw [HN2.out.2.1, List.length_append]; have := HN2.out.2.2; have := HTL.out; simp; omega, HNEW.out.2⟩, by simp only [strLen]; rw [HSZ.out, HSZ0.out]; have := HN2.out.2.2; omega⟩
              · have ht0 : t = [] := List.eq_nil_of_length_eq_zero (by have := HTL.out; omega)
                have hch := HCH.out
                rw [ht0, chs_nil, List.append_nil] at hch
                have hdg : Dig os := by rw [← hch]; exact chs_dig _ _ (Nat.le_refl _) HD.out
                have TM := hid (trim_any _ os wr HO.out.is hdg)
                have HFIN := hid (fun A m c wf (hn : IsNat wf (.slice A m c) (val os)) (hg : Grow w wf) => (show ParseRes w l (.returned (.tuple #[.slice A m c, .int .i64 0])) wf from ⟨A, m, c, by rw [HE.out], hg, fun h => absurd HE.out h, fun _ => by unfold parseN; rw [hch]; exact hn⟩))
                have tl0 : ¬ (0 : Int) < (tl : Int) := by omega
                clear hch hdg ht0
                generalize val os = vn at *
                go_wp2_with (go_at_call 38; refine TM.out.mono ?_; rintro e wT ⟨vT, rfl, ⟨hT, _⟩, rfl⟩; obtain ⟨AT, mT, cT, eT⟩ := hT.slice3; subst eT)
                go_ret2
                exact HFIN.out _ _ _ _ hT HG.out
      · have HE := hid (show parseErr l = 3 by
          unfold parseErr
          rw [if_pos (.inr (.inr (by
            cases hx : l.any (fun b => decide (b.toNat < 48 ∨ 57 < b.toNat)) with
            | true => rfl
            | false => exact absurd (allD_of hx) hd)))])
        obtain ⟨T, hT⟩ : ∃ T, T = strB (Lib.trimS l ten) := ⟨_, rfl⟩
        have t1 : T.toList.isEmpty = false := by
          rw [hT, strB_empty]
          cases hx : Lib.trimS l ten with
          | nil => exact absurd (trim_some hx) hd
          | cons _ _ => rfl
        have TR2 := hid (show ∀ W : World, Calls Tryz.prog 36 #[.string (strB l), .string ⟨#[48, 49, 50, 51, 52, 53, 54, 55, 56, 57]⟩] W (fun e w' => e = .returned (.string T) ∧ Grow W w') from fun W => by rw [hT]; exact TR.out W)
        have HCC := HC.out
        clear h0 hc hcm hd hT
        generalize strB l = S at *
        generalize (c.toNat : Int) = ci at *
        rcases HCC with ⟨b1, b2⟩ | b1
        all_goals
          go_enter Tryz.func9, Tryz.ntmps9
          go_wp2_with (go_at_call 36; refine (TR2.out _).mono ?_; rintro e w' ⟨rfl, hg⟩)
          go_ret2
          exact HBAD.out _ HE.out hg
end Go.Proofs.YtomgilkchlediaaGreatDoor
