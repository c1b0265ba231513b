/-
  Regions that draw their order and whose last operation waits for all others: what the loads read need only stand until that one. Plain laws of the walk.
-/
import Derived.Deep.RegionHeld3
import Derived.WalkKit
namespace Go.Proofs.YtomgilkchlediaaGreatDoor

section
variable {P : Program} {ops : Array Oper} {Q : Exit → Act → World → Prop} {md : Region.Mode} {S : World → Prop} {z : Nat}

/-- Whichever comes up; behind each but number z, S holds. -/
def AnyBut (P : Program) (md : Region.Mode) (ops : Array Oper) (Q : Exit → Act → World → Prop) (S : World → Prop) (z : Nat) : Nat → Array Bool → Act → World → Prop
  | 0, l, a, w => Region.ready md ops l = [] ∧ Q .normal a w
  | n + 1, l, a, w => (Region.ready md ops l = [] → Q .normal a w) ∧ ∀ i ∈ Region.ready md ops l, wpOp P ops Q i (fun a' w' => (i ≠ z → S w') ∧ AnyBut P md ops Q S z n (l.setIfInBounds i true) a' w') a w

theorem AnyBut.any : ∀ (n : Nat) (l : Array Bool) (a : Act) (w : World), AnyBut P md ops Q S z n l a w → wpAny P md ops Q n l a w
  | 0, _, _, _, h => h
  | n + 1, _, _, _, h => ⟨h.1, fun i hi => wpOp_mono (fun _ _ k => AnyBut.any n _ _ _ k.2) (h.2 i hi)⟩

/-- Number z waits for number i. -/
def waitsB (md : Region.Mode) (ops : Array Oper) (z i : Nat) : Bool := match ops[z]? with
  | some o => o.after.any fun e => Region.binds md e && e.on == i
  | none => false
theorem not_ready {i : Nat} {l : Array Bool} (hz : waitsB md ops z i = true) (hl : l.getD i false = false) : z ∉ Region.ready md ops l := fun h => by
  obtain ⟨_, o, ho, hall⟩ := mem_ready.1 h
  unfold waitsB at hz
  rw [ho] at hz
  obtain ⟨e, he, hb⟩ := Array.any_eq_true'.1 hz
  simp only [Bool.and_eq_true, beq_iff_eq] at hb
  have := hall e he hb.1
  rw [hb.2, hl] at this
  cases this
theorem unlisted {i : Nat} {l : Array Bool} (h : i ∈ Region.ready md ops l) : l.getD i false = false := by
  have h0 := (mem_ready.1 h).1
  rcases Nat.lt_or_ge i l.size with h' | h'
  · simp [h'] at h0 ⊢; exact h0
  · simp [Array.getElem?_eq_none h']

theorem AnyBut.first {i : Nat} {oi : Oper} {v : Value} (hi : ops[i]? = some oi) (hsel : ∀ (j : Nat) (o : Oper) cs b, ops[j]? = some o → o.op ≠ .select cs b)
    (hQ : ∀ c a w, Q (.panic c) (a.put oi.dst v) w → Q (.panic c) a w) (hz : waitsB md ops z i = true) :
    ∀ (n : Nat) (l : Array Bool) (a : Act) (w : World),
      (∀ j oj, ops[j]? = some oj → j ≠ i → l.getD j true = false → (∀ e ∈ oj.after, Region.binds md e = true → e.on ≠ i) → oi.apart ops oj = true) →
      i ∈ Region.ready md ops l → YieldsIf P ops S oi v a → S w →
      AnyBut P md ops Q S z n (l.setIfInBounds i true) (a.put oi.dst v) w → AnyBut P md ops Q S z (n + 1) l a w := by
  intro n
  induction n with
  | zero =>
    intro l a w _ hr hy hS H
    refine ⟨fun h => (by rw [h] at hr; cases hr), fun j hj => ?_⟩
    by_cases e : j = i
    · subst e; exact hy.wpOp hi hS ⟨fun _ => hS, H⟩
    · have := ready_mono hj e
      rw [H.1] at this
      cases this
  | succ n ih =>
    intro l a w hfree hr hy hS H
    refine ⟨fun h => (by rw [h] at hr; cases hr), fun j hj => ?_⟩
    by_cases e : j = i
    · subst e; exact hy.wpOp hi hS ⟨fun _ => hS, H⟩
    · have hjz : j ≠ z := fun e => not_ready hz (unlisted hr) (e ▸ hj)
      obtain ⟨hju, oj, hoj, hall⟩ := mem_ready.1 hj
      have hno : ∀ e ∈ oj.after, Region.binds md e = true → e.on ≠ i := fun e he hb h => by
        have h1 := hall e he hb
        rw [h, unlisted hr] at h1
        cases h1
      have h2 := wpOp_putIf hoj (hfree j oj hoj e hju hno) (fun cs b => hsel i oi cs b hi) (fun cs b => hsel j oj cs b hoj) hQ hy (H.2 j (ready_mono hj e))
      have hfree' : ∀ k ok, ops[k]? = some ok → k ≠ i → (l.setIfInBounds j true).getD k true = false →
          (∀ e ∈ ok.after, Region.binds md e = true → e.on ≠ i) → oi.apart ops ok = true := fun k ok hk hki hun hn => by
        refine hfree k ok hk hki ?_ hn
        by_cases hjk : j = k
        · subst hjk; exact hju
        · rw [getD_set_ne true hjk] at hun; exact hun
      refine wpOp_mono (fun a' w' h3 => ⟨h3.2.1, ih (l.setIfInBounds j true) a' w' hfree' (ready_mono hr (Ne.symm e)) h3.1 (h3.2.1 hjz) ?_⟩) h2
      rw [Array.setIfInBounds_comm _ _ e]
      exact h3.2.2

/-- Number i is taken first: it only reads. -/
theorem AnyBut.take (i : Nat) {oi : Oper} {v : Value} {n : Nat} {l : Array Bool} {a : Act} {w : World} (hi : ops[i]? = some oi)
    (hs : Region.noSelect ops = true) (hf : Region.free md ops l i = true) (hr : (Region.ready md ops l).contains i = true) (hz : waitsB md ops z i = true)
    (hQ : Shut (∀ c (a : Act) d v w, Q (.panic c) (a.put d v) w → Q (.panic c) a w)) (hw : Region.wanted oi (yielded ops a.tmps) = true) (hy : ∀ w, S w → (execOp a.eval oi).run P w = .ok (.value v) w) (hS : S w)
    (h : AnyBut P md ops Q S z n (l.setIfInBounds i true) (a.put oi.dst v) w) : AnyBut P md ops Q S z (n + 1) l a w :=
  AnyBut.first hi (Region.noSelect_spec hs) (fun c a w => hQ.out c a _ _ w) hz n l a w (Region.free_spec hi hf) (by simpa using hr) (.inl ⟨hw, hy⟩) hS h
/-- Number i alone may come up. -/
theorem AnyBut.one (i : Nat) {o : Oper} {n : Nat} {l : Array Bool} {a : Act} {w : World} (hr : Region.ready md ops l = [i]) (ho : ops[i]? = some o)
    (h : ∀ K' : Act → World → Prop, Shut (∀ a w, S w → (S w → AnyBut P md ops Q S z n (l.setIfInBounds i true) a w) → K' a w) → if Region.wanted o (yielded ops a.tmps) = true then Oper.wp P o a w K' Q else K' (a.put o.dst undef) w) :
    AnyBut P md ops Q S z (n + 1) l a w :=
  ⟨fun e => absurd (hr ▸ e) (by simp), fun j hj => by
    rw [hr] at hj
    obtain rfl : j = i := by simpa using hj
    exact wpOp_step ho fun K' hK => h K' fun a w hS hA => hK a w ⟨fun _ => hS, hA hS⟩⟩
/-- Number z comes up, the last one. -/
theorem AnyBut.last {o : Oper} {n : Nat} {l : Array Bool} {a : Act} {w : World} (hr : Region.ready md ops l = [z]) (ho : ops[z]? = some o) (he : Region.ready md ops (l.setIfInBounds z true) = [])
    (h : ∀ K' : Act → World → Prop, Shut (∀ a w, Q .normal a w → K' a w) → if Region.wanted o (yielded ops a.tmps) = true then Oper.wp P o a w K' Q else K' (a.put o.dst undef) w) :
    AnyBut P md ops Q S z (n + 1) l a w :=
  ⟨fun e => absurd (hr ▸ e) (by simp), fun j hj => by
    rw [hr] at hj
    obtain rfl : j = z := by simpa using hj
    refine wpOp_step ho fun K' hK => h K' fun a w hQ => hK a w ⟨fun h => absurd rfl h, ?_⟩
    cases n with
    | zero => exact ⟨he, hQ⟩
    | succ n => exact ⟨fun _ => hQ, by rw [he]; simp⟩⟩
/-- The beginning: the region is shown not to panic. -/
theorem anyBut_region {id : Nat} {a : Act} {w : World} (z : Nat) (hm : P.follows .mixedOrders = true) (hS : S w.drew)
    (h : Shut (∀ c (a : Act) d v w, NoPanic Q (.panic c) (a.put d v) w → NoPanic Q (.panic c) a w) → S w.drew → AnyBut P .any ops (NoPanic Q) S z ops.size (Array.replicate ops.size false) a w.drew) : (Code.region id ops true).wp P Q a w :=
  wp_region_noPanic (wp_region_any hm (AnyBut.any _ _ _ _ (h (fun _ _ _ _ _ h => h) hS)))
end
end Go.Proofs.YtomgilkchlediaaGreatDoor
