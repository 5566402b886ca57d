/- Heads and tails, compared by the model. -/
import Derived.Test.YtpepcfombibpeaaFo
import Derived.Test.YtpepcfombibpeaaMvC
import Derived.KernelRfl
set_option linter.unusedVariables false
set_option linter.unusedSimpArgs false
namespace Go.Proofs.Ytpepcfombibpeaa
open Go.Proofs Mv

theorem head_eq (h g : Head) : eqAgg Try.prog 65 (nh h) (nh g) = some (decide (h = g)) := by
  rw [← head_dec]
  kernel_rfl
theorem tail_eq (h g : Tail) : eqAgg Try.prog 61 (nl h) (nl g) = some (decide (h = g)) := by
  rw [← tail_dec]
  kernel_rfl

end Go.Proofs.Ytpepcfombibpeaa
