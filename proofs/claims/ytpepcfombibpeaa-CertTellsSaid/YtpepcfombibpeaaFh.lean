/- A copy of a slice, walked. -/
import Derived.Test.YtpepcfombibpeaaFg
import Derived.Test.YtpepcfombibpeaaMvC
import Derived.KernelRfl
set_option linter.unusedVariables false
set_option linter.unusedSimpArgs false
namespace Go.Proofs.Ytpepcfombibpeaa
open Go.Proofs Mv
set_option maxRecDepth 100000 in
set_option maxHeartbeats 4000000 in
theorem copy0_ok : CallsV Try.prog 34 [.sl (em ni [])] (.slo 1 (em ni [])) := by
  refine CallsR.intro (I0.sound _) mix Try.func34 rfl rfl (by simp [Try.f34]) (by kernel_rfl) (nb := 0) ?_
  unfold Try.f34
  refine Wp.seqI ?_
  refine Wp.regI I0.mono ?_
  refine GL.assign I0.mono (by conv => lhs; whnf) ?_
  refine GL.doneF ?_
  refine goOn ?_
  refine Wp.seqI ?_
  refine Wp.regI I0.mono ?_
  refine GL.move I0.mono (by conv => lhs; whnf) ?_
  refine GL.appendNil I0.mono rfl rfl rfl rfl rfl ?_
  refine GL.assign I0.mono (by conv => lhs; whnf) ?_
  refine GL.doneF ?_
  refine goOn ?_
  refine Wp.retI ?_
  refine RetX.ret ?_
  exact ⟨_, _, _, _, .cons (.tmp rfl) .nil, .nils, List.nodup_nil, by simp, rfl⟩

set_option maxRecDepth 100000 in
set_option maxHeartbeats 4000000 in
theorem copy1_ok (l : List Int) (h0 : 0 < l.length) (hl : l.length ≤ 4294967296) : CallsV Try.prog 34 [.sl (em ni l)] (.slo 1 (em ni l)) := by
  refine CallsR.intro (I0.sound _) mix Try.func34 rfl rfl (by simp [Try.f34]) (by kernel_rfl) (nb := 0) ?_
  unfold Try.f34
  refine Wp.seqI ?_
  refine Wp.regI I0.mono ?_
  refine GL.assign I0.mono (by conv => lhs; whnf) ?_
  refine GL.doneF ?_
  refine goOn ?_
  refine Wp.seqI ?_
  refine Wp.regI I0.mono ?_
  refine GL.move I0.mono (by conv => lhs; whnf) ?_
  refine GL.appendSl I0.mono (sz := 1) (z := [.int .i64 0]) rfl rfl rfl rfl rfl (by decide) (Nat.le_of_ble_eq_true rfl) rfl rfl (fun _ => rfl) (fun _ => rfl) h0 hl ?_
  intro g4
  refine GL.assign I0.mono (by conv => lhs; whnf) ?_
  refine GL.doneF ?_
  refine goOn ?_
  refine Wp.retI ?_
  refine RetX.ret ?_
  exact ⟨_, _, _, _, .cons (.tmp rfl) .nil, .slo rfl rfl rfl rfl (by rw [em_len]; omega), by simp, by simp, rfl⟩

theorem copy_ok (l : List Int) (hl : l.length ≤ 4294967296) : CallsV Try.prog 34 [.sl (em ni l)] (.slo 1 (em ni l)) := by
  by_cases h0 : 0 < l.length
  · exact copy1_ok l h0 hl
  · have : l = [] := List.eq_nil_of_length_eq_zero (by omega)
    subst this
    exact copy0_ok

end Go.Proofs.Ytpepcfombibpeaa
