/- The edit that changes nothing. -/
import Derived.Test.YtffnlhjdlhpmjaaProg
import Derived.Test.YtffnlhjdlhpmjaaKf
import Derived.KernelRfl
set_option linter.all false
namespace Go.Proofs.Ytffnlhjdlhpmjaa
open Go.Proofs Mv
def d0 : Delta := ⟨[], [], []⟩
theorem okD_of {d : Delta} (h : decide (d.turns.length < 20) && (decide (d.locks.length < 20) && (decide (d.ices.length < 20) && d.turns.all fun t => decide (t.before.length ≤ 1000000) && decide (t.after.length ≤ 1000000))) = true) : OkD d := by
  simp only [Bool.and_eq_true, decide_eq_true_eq, List.all_eq_true] at h
  exact ⟨h.1, h.2.1, h.2.2.1, h.2.2.2⟩
theorem moved_f (d : Delta) (hd : OkD d) : CallsV Try.prog 27 [.agg (kd d)] (.sl (em ni (movedL d))) := (moved_ok d hd).freeze rfl

end Go.Proofs.Ytffnlhjdlhpmjaa
