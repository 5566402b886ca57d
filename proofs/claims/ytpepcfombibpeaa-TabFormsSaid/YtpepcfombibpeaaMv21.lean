/- What the small functions compute. -/
import Derived.Test.YtpepcfombibpeaaMv20
set_option linter.unusedVariables false
set_option linter.unusedSimpArgs false
namespace Go.Proofs.Ytpepcfombibpeaa.Mv

theorem drop_getD {α : Type} [Inhabited α] {l : List α} {i : Nat} (h : i < l.length) : l.drop i = l.getD i default :: l.drop (i + 1) := by
  rw [List.drop_eq_getElem_cons h]
  simp [List.getElem?_eq_getElem h]
theorem drop_all {α : Type} {l : List α} {i : Nat} (h : ¬ i < l.length) : l.drop i = [] := List.drop_eq_nil_of_le (by omega)

def mate : List Two → Int → Int
  | [], _ => 0
  | p :: r, n => if n = p.p0 then p.p1 else if n = p.p1 then p.p0 else mate r n
def first : List Two → Int → Bool
  | [], _ => false
  | p :: r, n => if p.p0 = n then true else first r n
/-- Where a number stands in a list, or -1. -/
def index : List Int → Int → Int
  | [], _ => -1
  | x :: r, n => if n = x then 0 else if index r n < 0 then -1 else index r n + 1
theorem same_ext {l l' : List Int} (h : l.length = l'.length) (ha : ∀ j, j < l.length → l.getD j default = l'.getD j default) : l = l' := by
  refine List.ext_getElem h fun j h1 h2 => ?_
  have := ha j h1
  simpa [List.getElem?_eq_getElem h1, List.getElem?_eq_getElem h2] using this
end Go.Proofs.Ytpepcfombibpeaa.Mv
