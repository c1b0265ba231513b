/-
  'm[p] += n' in whatever order: the look-up behind the laying of the entry.
-/
import Derived.Test.YtomgilkchlediaaRankB
namespace Go.Proofs.Ytomgilkchlediaa
open Go.RowKit Go.Maps Go.ChangeMaps

theorem atE_addE {qs : List (P4 × Int)} (h : Once qs) (p : P4) (n : Int) : atE (addE qs p n) p = atE qs p + n :=
  atE_in (once_add h p n) (x := (p, atE qs p + n)) ((addE_mem h).2 (.inr rfl))
open Go.WideElems in
/-- What laying an entry does to the map's block. -/
theorem entry_block {H : Type} {P : Program} {w : World} {t k e : TypeId} {R : Value → Option (DataW H × List MemPlace)} {b : Nat} {es es1 : Array MapEntry} {clock clock1 st : Nat} {v0 : Value} (K : WideMaps.KeyLaw P k) (ht : P.underlying t = some (.map k e)) {z : Value} (hz : ∀ u : World, (zeroValue e).run P u = .ok z u)
    (hb : w.heap[b]? = some (.map es clock)) (F : WideElems.Fit P k R es clock) {key : Value} {kl : Lit} (hkey : keyOf P k key = some kl)
    (hrun : (Instr.mapEntry t (.map (some b)) key).run P w = .ok (.tuple #[v0, goInt st]) (setBlock w b (.map es1 clock1))) :
    (es1 = es ∧ clock1 = clock) ∨ ((Instr.lookup t (.map (some b)) key false).run P w = .ok z w ∧ (Instr.mapUpdate t (.map (some b)) key z).run P w = .ok () (setBlock w b (.map es1 clock1))) := by
  have hblk : ∀ {a a' : Array MapEntry} {c c' : Nat}, setBlock w b (.map a c) = setBlock w b (.map a' c') → a = a' ∧ c = c' := fun {a a' c c'} h => by
    have h1 := heap_setBlock_same (o := .map a c) hb
    rw [h, heap_setBlock_same hb] at h1
    injection h1 with h1
    injection h1 with h1 h2
    exact ⟨h1.symm, h2.symm⟩
  rcases K.find w hkey es.toList F.keys with ⟨h1, h2⟩ | ⟨j, e0, h1, h2, h3⟩
  · right
    have hm : (Instr.mapEntry t (.map (some b)) key).run P w = .ok (.tuple #[z, goInt clock]) (setBlock w b (.map (es.push ⟨key, z, clock⟩) (clock + 1))) := by
      simp [Instr.mapEntry, run_underlying ht, MapKept.run_getObj_map hb, K.check w false hkey, h1, hz, MapKept.run_setObj_map _ hb, Result.andThen, setBlock]
    rw [hm] at hrun
    injection hrun with _ hw
    obtain ⟨rfl, rfl⟩ := hblk hw
    refine ⟨by simp [Instr.lookup, run_underlying ht, MapKept.run_getObj_map hb, K.check w es.isEmpty hkey, h1, hz, Result.andThen], ?_⟩
    simp [Instr.mapUpdate, run_underlying ht, MapKept.run_getObj_map hb, K.check w false hkey, h1, MapKept.run_setObj_map _ hb, Result.andThen, setBlock]
  · left
    have hj : es[j]? = some e0 := by simpa using h2
    have hsame : es.modify j (fun e => { e with key := key }) = es := by
      apply Array.ext'
      rw [Array.toList_modify, modify_eq_set _ _ _ _ h2]
      have : ({ e0 with key := key } : MapEntry) = e0 := by rw [← h3]
      rw [this]
      exact set_self _ _ _ h2
    have hm : (Instr.mapEntry t (.map (some b)) key).run P w = .ok (.tuple #[e0.val, goInt e0.born]) (setBlock w b (.map es clock)) := by
      simp [Instr.mapEntry, run_underlying ht, MapKept.run_getObj_map hb, K.check w false hkey, h1, hj, h3, K.stays w hkey, hsame, MapKept.run_setObj_map _ hb, Result.andThen, setBlock]
    rw [hm] at hrun
    injection hrun with _ hw
    obtain ⟨rfl, rfl⟩ := hblk hw
    exact ⟨rfl, rfl⟩
theorem addE_zero {qs : List (P4 × Int)} {p : P4} (h : ∃ x ∈ qs, x.1 = p) : addE qs p 0 = qs := by
  unfold addE
  rw [if_pos h]
  conv => rhs; rw [← List.map_id qs]
  refine List.map_congr_left fun x _ => ?_
  split
  · simp
  · rfl
set_option maxRecDepth 100000 in
/-- 'm[p] += n': the entry is laid; a look-up still finds what was there; then its element is stored. -/
theorem MapE.plus {w : World} {b : Nat} {qs : List (P4 × Int)} (h : MapE w b qs) (ho : Once qs) (t : TypeId) (ht : Try.prog.underlying t = some (.map 61 3)) {p : P4} (hf : Fit4 p) (hall : ∀ x ∈ qs, Fit4 x.1) {n : Int} (hn : (Lit.int .i64 (atE qs p + n)).wf = true) (hl : qs.length < maxLen) :
    ∃ (v0 : Value) (st : Nat) (es1 : Array MapEntry) (clock1 : Nat), (Instr.mapEntry t (.map (some b)) (fourV p)).run Try.prog w = .ok (.tuple #[v0, goInt st]) (setBlock w b (.map es1 clock1)) ∧
      (Instr.lookup t (.map (some b)) (fourV p) false).run Try.prog (setBlock w b (.map es1 clock1)) = .ok (.int .i64 (atE qs p)) (setBlock w b (.map es1 clock1)) ∧
      ∀ w2 : World, w2.heap[b]? = some (.map es1 clock1) → ∃ es2 clock2, (Instr.entryStore t (.map (some b)) (goInt st) (.int .i64 (atE qs p + n))).run Try.prog w2 = .ok () (setBlock w2 b (.map es2 clock2)) ∧ MapE (setBlock w2 b (.map es2 clock2)) b (addE qs p n) := by
  obtain ⟨v0, st, es1, clock1, hrun, hst⟩ := h.put ho t ht hf hall hn hl
  refine ⟨v0, st, es1, clock1, hrun, ?_, hst⟩
  have h0 := h
  obtain ⟨D, hown, hsz, h1, h2⟩ := h
  obtain ⟨es, clock, hb, F, hs, hD⟩ := id hown
  rcases entry_block four_key ht (fun u => zeroInt u) hb F (key4_is hf) hrun with ⟨rfl, rfl⟩ | ⟨hlk, hup⟩
  · exact (h0.at ((heap_setBlock_same (o := .map es1 clock1) hb).trans hb.symm)).look ho t ht hf
  · obtain ⟨w', hr, ho2, _⟩ := hown.store four_law ht hl (key4_is hf) (plainElem_int Try.underlying3 (show (Lit.int .i64 0).wf = true by decide))
    have hw2 := (Result.ok.inj (hup.symm.trans hr)).2
    subst hw2
    obtain ⟨c, hr2, hat, _⟩ := ho2.lookup_int four_law ht Try.underlying3 (zeroInt _) (key4_is hf)
    rw [hr2]
    have hz := h0.look ho t ht hf
    have hz := (Value.int.inj (Result.ok.inj (hlk.symm.trans hz)).1).2
    have hkl := four_law.key (key4_is hf)
    rw [Maps.atKey_put_same hown.isMap hkl] at hat
    injection hat with hat
    injection hat with _ hat
    rw [← hz, ← hat]
end Go.Proofs.Ytomgilkchlediaa
