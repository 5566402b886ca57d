/- The row of stops that a law plays with. -/
import Derived.Test.YtpepcfombibpeaaMv29
set_option linter.unusedVariables false
set_option linter.unusedSimpArgs false
namespace Go.Proofs.Ytpepcfombibpeaa.Mv

def rowA (i : Inst) (w : Int) : Int := if within (w.tdiv 20) 40 = 39 then within w 20 - 2 else 1 + within w (imax i.stops.length 1)
def seen (l : List Int) (a : Int) : Bool := l.any fun x => x == a
theorem seen_take (l : List Int) (a : Int) {k : Nat} (h : k < l.length) : seen (l.take (k + 1)) a = (seen (l.take k) a || (l.getD k default == a)) := by
  unfold seen
  rw [List.take_add_one, List.any_append]
  simp [List.getElem?_eq_getElem h]
def rowStep (i : Inst) (l : List Int) (w : Int) : List Int :=
  if seen l (rowA i w) = true ∧ ¬ within (w.tdiv 7) 30 = 29 then l
  else if mate i.pairs (rowA i w) > 0 ∧ within (w.tdiv 3) 8 < 7 ∧ first i.pairs (rowA i w) = true then l ++ [rowA i w] ++ [mate i.pairs (rowA i w)]
  else l ++ [rowA i w]
def rowK (i : Inst) (z : List Int) : Nat → List Int
  | 0 => []
  | k + 1 => rowStep i (rowK i z k) (z.getD k default)
theorem rowK_len (i : Inst) (z : List Int) : ∀ k, (rowK i z k).length ≤ 2 * k
  | 0 => by simp [rowK]
  | k + 1 => by
    have := rowK_len i z k
    simp only [rowK, rowStep]
    split
    · omega
    · split <;> simp <;> omega
def rowOf (i : Inst) (z : List Int) : List Int := rowK i z (min z.length 7)
end Go.Proofs.Ytpepcfombibpeaa.Mv
