/- What is known of the instance that a law plays with; sums that may wrap. -/
import Derived.Test.YtpepcfombibpeaaMv31
set_option linter.unusedVariables false
set_option linter.unusedSimpArgs false
namespace Go.Proofs.Ytpepcfombibpeaa.Mv
open Go.IntWalk

theorem nCars_le (z : List Int) : 1 ≤ nCars z ∧ nCars z ≤ 3 := by
  have := within_in (a := num z 0) (n := 3) (by decide)
  unfold nCars
  omega
theorem nStops_le (z : List Int) : 2 ≤ nStops z ∧ nStops z ≤ 8 := by
  have := within_in (a := num z 4) (n := 7) (by decide)
  unfold nStops
  omega
theorem nPairs_le (z : List Int) : 2 * nPairs z ≤ nStops z ∧ nPairs z ≤ 2 := by
  have := within_in (a := num z 14) (n := 3) (by decide)
  unfold nPairs
  omega
theorem inst_cars (z : List Int) : (instOf z).cars.length = nCars z := cars_len z _
theorem inst_stops (z : List Int) : (instOf z).stops.length = nStops z := by
  show (stopsK z (stops0 z (nStops z)) (nPairs z)).length = _
  rw [stopsK_len, stops0_len]
theorem inst_pairs (z : List Int) : (instOf z).pairs.length = nPairs z := by simp [instOf, pairsK]
theorem inst_travel (z : List Int) : (instOf z).travel.length = nStops z + 1 := by simp [instOf, Mv.ways]
theorem inst_row (z : List Int) {a : Nat} (h : a < nStops z + 1) : (instOf z).travel.getD a default = wayRow z a (nStops z + 1) := by
  simp [instOf, Mv.ways, h]
theorem inst_cell (z : List Int) {a b : Nat} (ha : a < nStops z + 1) (hb : b < nStops z + 1) : ((instOf z).travel.getD a default).getD b default = wayOf z a b := by
  rw [inst_row z ha]
  simp [wayRow, hb]
theorem wayOf_in (z : List Int) (a b : Int) : 0 ≤ wayOf z a b ∧ wayOf z a b ≤ 14 := by
  have := within_in (a := num z (20 + 3 * a + 5 * b)) (n := 14) (by decide)
  unfold wayOf
  split <;> omega
theorem inst_short (z : List Int) : (instOf z).Short := by
  have h1 := nCars_le z
  have h2 := nStops_le z
  have h3 := nPairs_le z
  refine ⟨?_, ?_, ?_, ?_, ?_⟩
  · unfold Short; rw [inst_cars]; omega
  · unfold Short; rw [inst_stops]; omega
  · unfold Short; rw [inst_pairs]; omega
  · unfold Short; rw [inst_travel]; omega
  · intro r hr
    obtain ⟨x, -, rfl⟩ := List.mem_map.1 hr
    unfold Short
    simp [wayRow]
    omega
theorem way_inst (z : List Int) {a b : Int} (ha : 0 ≤ a) (hb : 0 ≤ b) (ha2 : a < (nStops z : Int) + 1) (hb2 : b < (nStops z : Int) + 1) : way (instOf z) a b = wayOf z a b := by
  have e1 : ((a.toNat : Nat) : Int) = a := Int.toNat_of_nonneg ha
  have e2 : ((b.toNat : Nat) : Int) = b := Int.toNat_of_nonneg hb
  unfold way
  rw [if_neg (by rw [inst_travel]; omega), inst_row z (by omega), if_neg (by simp [wayRow]; omega), ← inst_row z (by omega), inst_cell z (by omega) (by omega), e1, e2]

/-! ### Sums that may wrap -/
theorem wadd_eq (a b : Int) : ∃ k : Int, wadd a b = a + b + k * 18446744073709551616 := by
  unfold wadd
  rw [IntKind.wrap_i64]
  exact ⟨-((a + b + 9223372036854775808) / 18446744073709551616), by omega⟩
theorem in_unique {a b : Int} (ha : In a) (hb : In b) {k : Int} (h : a = b + k * 18446744073709551616) : a = b := by
  unfold In at ha hb
  omega
theorem wadd_small {a b : Int} (h : -9223372036854775808 ≤ a + b ∧ a + b ≤ 9223372036854775807) : wadd a b = a + b := by
  unfold wadd
  exact i64_in _ h
theorem cost_bad (i : Inst) : ∀ (l : List Int) (p s : Int), (∃ x ∈ l, isStop i x = false) → costGo i p s l = 0
  | [], _, _, h => by obtain ⟨x, hx, -⟩ := h; cases hx
  | y :: r, p, s, h => by
    simp only [costGo]
    cases hy : isStop i y with
    | false => simp
    | true =>
      simp only [if_true]
      refine cost_bad i r _ _ ?_
      obtain ⟨x, hx, hb⟩ := h
      rcases List.mem_cons.1 hx with rfl | hx
      · rw [hy] at hb
        cases hb
      · exact ⟨x, hx, hb⟩
theorem eval_cost {i : Inst} {c : Int} {l : List Int} (h : (eval i c l).isSome = true) : ((eval i c l).getD zeroT).t2 = cost i l := by
  unfold eval at h ⊢
  split
  · rename_i hc
    rw [if_pos hc] at h
    cases h
  · rename_i hc
    rw [if_neg hc] at h
    cases he : evalGo i (i.cars.getD c.toNat default) 0 (i.cars.getD c.toNat default).c1 0 [] [] l with
    | none => rw [he] at h; cases h
    | some r => rfl
end Go.Proofs.Ytpepcfombibpeaa.Mv
