/- The pairs of an instance: what is loaded of one is unloaded. -/
import Derived.Test.YtpepcfombibpeaaMv36
set_option linter.unusedVariables false
set_option linter.unusedSimpArgs false
namespace Go.Proofs.Ytpepcfombibpeaa.Mv

/-- The pairs' stops are there, and what is loaded at the one is unloaded at the other. -/
def Sd (i : Inst) : Prop := ∀ p ∈ i.pairs, isStop i p.p0 = true ∧ isStop i p.p1 = true ∧ (stopAt i p.p0).s0 + (stopAt i p.p1).s0 = 0
theorem setQ_s0 (l : List Stop) (j a : Nat) (q : Int) (h : a < l.length) : ((setQ l j q).getD a default).s0 = if j = a then q else (l.getD a default).s0 := by
  unfold setQ
  rw [getD_set _ _ _ _ h]
  by_cases e : j = a
  · rw [if_pos e, if_pos e]
  · rw [if_neg e, if_neg e]
theorem inst_sd (z : List Int) : Sd (instOf z) := by
  have h := nPairs_le z
  have hs := nStops_le z
  have hst := inst_stops z
  have e : (instOf z).pairs = pairsK z (nPairs z) := rfl
  have el : (instOf z).stops = stopsK z (stops0 z (nStops z)) (nPairs z) := rfl
  have e0 : pairOf z 0 = ⟨2, 1⟩ ∨ pairOf z 0 = ⟨1, 2⟩ := by unfold pairOf; split <;> simp
  have e1 : pairOf z 1 = ⟨4, 3⟩ ∨ pairOf z 1 = ⟨3, 4⟩ := by unfold pairOf; split <;> simp
  have hl0 := stops0_len z (nStops z)
  unfold Sd stopAt isStop
  rw [hst, e, el]
  generalize nPairs z = n at h
  generalize stops0 z (nStops z) = l at hl0
  match n, h with
  | 0, _ => intro p hp; simp [pairsK] at hp
  | 1, _ =>
    have e2 : pairsK z 1 = [pairOf z 0] := rfl
    have e3 : stopsK z l 1 = setQ (setQ l ((pairOf z 0).p0 - 1).toNat (pairQ z 0)) ((pairOf z 0).p1 - 1).toNat (-(pairQ z 0)) := rfl
    intro p hp
    rw [e2, List.mem_singleton] at hp
    subst hp
    rw [e3]
    have g1 : ∀ (j a : Nat) (q : Int) (l' : List Stop), a < l'.length → ((setQ l' j q).getD a default).s0 = if j = a then q else (l'.getD a default).s0 := fun j a q l' => setQ_s0 l' j a q
    rcases e0 with e0 | e0 <;> rw [e0] <;> refine ⟨by simp; omega, by simp; omega, ?_⟩ <;> simp only [g1, setQ_len, hl0, show ((2 : Int) - 1).toNat = 1 from rfl, show ((1 : Int) - 1).toNat = 0 from rfl, show 0 < nStops z by omega, show 1 < nStops z by omega] <;> simp <;> omega
  | 2, h =>
    have e2 : pairsK z 2 = [pairOf z 0, pairOf z 1] := rfl
    have e3 : stopsK z l 2 = setQ (setQ (setQ (setQ l ((pairOf z 0).p0 - 1).toNat (pairQ z 0)) ((pairOf z 0).p1 - 1).toNat (-(pairQ z 0))) ((pairOf z 1).p0 - 1).toNat (pairQ z 1)) ((pairOf z 1).p1 - 1).toNat (-(pairQ z 1)) := rfl
    intro p hp
    rw [e2] at hp
    have hp2 : p = pairOf z 0 ∨ p = pairOf z 1 := by simpa using hp
    rw [e3]
    have g1 : ∀ (j a : Nat) (q : Int) (l' : List Stop), a < l'.length → ((setQ l' j q).getD a default).s0 = if j = a then q else (l'.getD a default).s0 := fun j a q l' => setQ_s0 l' j a q
    rcases hp2 with rfl | rfl <;> rcases e0 with e0 | e0 <;> rcases e1 with e1 | e1 <;> rw [e0, e1] <;> refine ⟨by simp; omega, by simp; omega, ?_⟩ <;> simp only [g1, setQ_len, hl0, show ((2 : Int) - 1).toNat = 1 from rfl, show ((1 : Int) - 1).toNat = 0 from rfl, show ((3 : Int) - 1).toNat = 2 from rfl, show ((4 : Int) - 1).toNat = 3 from rfl, show 0 < nStops z by omega, show 1 < nStops z by omega, show 2 < nStops z by omega, show 3 < nStops z by omega] <;> simp <;> omega
  | n + 3, h => omega
end Go.Proofs.Ytpepcfombibpeaa.Mv
