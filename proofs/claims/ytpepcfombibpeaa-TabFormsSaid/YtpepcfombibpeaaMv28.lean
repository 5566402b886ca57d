/- Numbers drawn out of a law's arguments. -/
import Derived.Test.YtpepcfombibpeaaMv27
set_option linter.unusedVariables false
set_option linter.unusedSimpArgs false
namespace Go.Proofs.Ytpepcfombibpeaa.Mv
open Go.IntWalk

theorem wadd_in (a b : Int) : In (wadd a b) := by
  unfold wadd In
  rw [IntKind.wrap_i64]
  omega
theorem Ints.at {z : List Int} (h : Ints z) (i : Nat) : In (z.getD i default) := by
  by_cases hi : i < z.length
  · have := h.num _ (getD_mem_or hi)
    simp only [Lit.wf, Bool.and_eq_true, decide_eq_true_eq] at this
    exact this
  · rw [List.getD_eq_getElem?_getD, List.getElem?_eq_none (by omega)]
    unfold In
    decide
/-- The k-th number that a law's list stands for. -/
def num (z : List Int) (k : Int) : Int :=
  if z.length = 0 then k * 7 else wadd ((z.getD (k.tmod z.length).toNat default).tdiv (1 + k.tdiv z.length)) (k.tdiv z.length)
theorem num_in (z : List Int) {k : Int} (h0 : 0 ≤ k) (h1 : k < 1000000) : In (num z k) := by
  unfold num
  split
  · unfold In
    omega
  · exact wadd_in _ _
theorem within_in {a n : Int} (h : 1 ≤ n) : 0 ≤ within a n ∧ within a n < n := by
  unfold within
  rw [if_neg (by omega)]
  exact ⟨Int.emod_nonneg _ (by omega), Int.emod_lt_of_pos _ (by omega)⟩
end Go.Proofs.Ytpepcfombibpeaa.Mv
